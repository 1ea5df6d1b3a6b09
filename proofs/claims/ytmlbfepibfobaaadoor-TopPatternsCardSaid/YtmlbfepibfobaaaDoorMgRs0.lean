import Derived.Test.YtmlbfepibfobaaaDoorProg
import Derived.Below
import Derived.Deep.Draws
import Derived.Deep.AppendLies
import Derived.Maps.AppendAt
import Derived.OwnWalk
import Derived.Laws.BytesArg
import Derived.Laws.MakeOwn
import Derived.Laws.OwnMore
import Derived.Deep.OwnRows
import Derived.Tactics
import Derived.Lib.ConvBytes
import Derived.Laws.Slices
import Derived.WalkKit
import Derived.KernelRfl
import Derived.RowKit3
import Derived.Deep.LoopGhost
import Derived.Deep.QuietTactic
import Derived.BigQuiet
import Derived.WideLaws
import Derived.Deep.DeepCutAuto
import Derived.Deep.CutBlock
import Derived.Deep.RegionHeld3
import Derived.Laws.Rows
import Derived.Lib.AppendStr
import Derived.ArgAppend
import Derived.Laws.IdiomCopy
import Derived.OrdersHeld
import Derived.Laws.BitsLemmas
import Derived.RowKit
import Derived.Test.YtmlbfepibfobaaaDoorWWords
import Derived.Test.YtmlbfepibfobaaaDoorWLast
import Derived.Test.YtmlbfepibfobaaaDoorWTab
import Derived.Test.YtmlbfepibfobaaaDoorWFour
import Derived.Test.YtmlbfepibfobaaaDoorWQPut
import Derived.Test.YtmlbfepibfobaaaDoorWApart
import Derived.Test.YtmlbfepibfobaaaDoorWArr
import Derived.Test.YtmlbfepibfobaaaDoorWZeros
import Derived.Test.YtmlbfepibfobaaaDoorWFoot
import Derived.Test.YtmlbfepibfobaaaDoorWKept
import Derived.Test.YtmlbfepibfobaaaDoorWShare
import Derived.Test.YtmlbfepibfobaaaDoorWN
import Derived.Test.YtmlbfepibfobaaaDoorWFootNe
import Derived.Test.YtmlbfepibfobaaaDoorWAt
import Derived.Test.YtmlbfepibfobaaaDoorWEqStruct
import Derived.Test.YtmlbfepibfobaaaDoorWRepsOne
import Derived.Test.YtmlbfepibfobaaaDoorWInv
import Derived.Test.YtmlbfepibfobaaaDoorWInvWords
import Derived.Test.YtmlbfepibfobaaaDoorWGuard
import Derived.Test.YtmlbfepibfobaaaDoorWNEv
import Derived.Test.YtmlbfepibfobaaaDoorWMore
import Derived.Shelf.Strings.Builder1
import Derived.Shelf.Strings.Builder2
import Derived.Shelf.Strings.OnBuilder
import Derived.Shelf.Strings.BuilderF
import Derived.Shelf.Strings.Search1
import Derived.Shelf.Strings.Search2
import Derived.Shelf.Strings.Search3
import Derived.Shelf.Strings.Cut
import Derived.Shelf.Strings.Count
import Derived.Shelf.LaysM
import Derived.Shelf.Strings.Shaped
import Derived.Shelf.Strings.LastIndex
import Derived.Shelf.GgClosure.StringsIndexFunc
import Derived.Ground.GgwProg
import Derived.Shelf.GgClosure.StringsIndexFuncTop
import Derived.Shelf.GgClosure.StringsRunes
import Derived.Shelf.Strings.Split
import Derived.Shelf.Unicode.Decode
import Derived.Shelf.Strings.RuneCount
import Derived.Shelf.Strings.Explode
import Derived.Shelf.Unicode.DecodeSlow
import Derived.Shelf.Unicode.DecodeAny
import Derived.Shelf.Strings.FuncGrows
import Derived.Ground.PaProg
import Derived.Shelf.Path.Small
import Derived.Lib.Hide
import Derived.Laws.CopyOwn
import Derived.Laws.Strings
section
-- Written by this session's program layer.py (the kit's print, turned), not by hand.
namespace Go.Proofs.YtmlbfepibfobaaaDoor.Q4
open Go.RowKit Go.Proofs.YtmlbfepibfobaaaDoorW.PrintWords Go.Proofs.YtmlbfepibfobaaaDoorW.PrintLast Go.Proofs.YtmlbfepibfobaaaDoorW.PrintMore
attribute [local go_sem] max2_int min2_int max_two min_two max_three min_three max_four min_four   -- for this text's walks alone
set_option linter.unusedVariables false
set_option linter.unusedSimpArgs false



def errW : Option Int → Value
  | none => .nilIface
  | some c => .iface 0 (.int .i64 c)
theorem errW_none : errW none = .nilIface := rfl
theorem errW_some (c : Int) : errW (some c) = .iface 0 (.int .i64 c) := rfl

-- the values' own types

end Go.Proofs.YtmlbfepibfobaaaDoor.Q4
end

section
-- Written by this session's program layer.py (the kit's print, turned), not by hand.
namespace Go.Proofs.YtmlbfepibfobaaaDoor.Q4
open Go.RowKit Go.Proofs.YtmlbfepibfobaaaDoorW.PrintWords Go.Proofs.YtmlbfepibfobaaaDoorW.PrintLast Go.Proofs.YtmlbfepibfobaaaDoorW.PrintMore
attribute [local go_sem] max2_int min2_int max_two min_two max_three min_three max_four min_four   -- for this text's walks alone
set_option linter.unusedVariables false
set_option linter.unusedSimpArgs false

/-! ### word_letter: function 126 -/
mutual
def word_letter.j0 : Nat → Int → Bool → Option (Bool)
  | 0, _, _ => none
  | k + 1, x0, x3 => if x3 = true then (some true) else (if x0 ≥ 65 then (word_letter.j1 k x0 (decide (x0 ≤ 90))) else (word_letter.j1 k x0 false))
def word_letter.j1 : Nat → Int → Bool → Option (Bool)
  | 0, _, _ => none
  | k + 1, x0, x8 => if x8 = true then (some true) else (if x0 ≥ 97 then (word_letter.j2 k x0 (decide (x0 ≤ 122))) else (word_letter.j2 k x0 false))
def word_letter.j2 : Nat → Int → Bool → Option (Bool)
  | 0, _, _ => none
  | k + 1, x0, x8 => if x8 = true then (some true) else (if x0 ≥ 48 then (if x0 ≤ 57 then (some true) else (some false)) else (some false))
end
def word_letter.f (k : Nat) (a0 : Int) : Option (Bool) := if a0 = 95 then (word_letter.j0 k a0 (a0 == 95)) else (word_letter.j0 k a0 (a0 == 36))
theorem word_letter.mono_l : ∀ k, (∀ y0 y1, LeO (word_letter.j0 k y0 y1) (word_letter.j0 (k + 1) y0 y1)) ∧ (∀ y0 y1, LeO (word_letter.j1 k y0 y1) (word_letter.j1 (k + 1) y0 y1)) ∧ (∀ y0 y1, LeO (word_letter.j2 k y0 y1) (word_letter.j2 (k + 1) y0 y1))
  | 0 => ⟨fun _ _ r h => by simp [word_letter.j0] at h, fun _ _ r h => by simp [word_letter.j1] at h, fun _ _ r h => by simp [word_letter.j2] at h⟩
  | k + 1 => by
    obtain ⟨ih0, ih1, ih2⟩ := word_letter.mono_l k
    refine ⟨?_, ?_, ?_⟩
    · intro y0 y1
      unfold word_letter.j0
      repeat' first
      | (with_reducible exact ih0 _ _)
      | (with_reducible exact ih1 _ _)
      | (with_reducible exact ih2 _ _)
      | (with_reducible exact LeO.refl _)
      | (with_reducible exact LeO.none _)
      | (with_reducible refine LeO.ite ?_ ?_)
      | (with_reducible refine LeO.bind ?_ (fun _ => ?_))
      | exact ih0 _ _
      | exact ih1 _ _
      | exact ih2 _ _
      | exact LeO.none _
      | refine LeO.ite ?_ ?_
      | refine LeO.bind ?_ (fun _ => ?_)
    · intro y0 y1
      unfold word_letter.j1
      repeat' first
      | (with_reducible exact ih0 _ _)
      | (with_reducible exact ih1 _ _)
      | (with_reducible exact ih2 _ _)
      | (with_reducible exact LeO.refl _)
      | (with_reducible exact LeO.none _)
      | (with_reducible refine LeO.ite ?_ ?_)
      | (with_reducible refine LeO.bind ?_ (fun _ => ?_))
      | exact ih0 _ _
      | exact ih1 _ _
      | exact ih2 _ _
      | exact LeO.none _
      | refine LeO.ite ?_ ?_
      | refine LeO.bind ?_ (fun _ => ?_)
    · intro y0 y1
      unfold word_letter.j2
      repeat' first
      | (with_reducible exact ih0 _ _)
      | (with_reducible exact ih1 _ _)
      | (with_reducible exact ih2 _ _)
      | (with_reducible exact LeO.refl _)
      | (with_reducible exact LeO.none _)
      | (with_reducible refine LeO.ite ?_ ?_)
      | (with_reducible refine LeO.bind ?_ (fun _ => ?_))
      | exact ih0 _ _
      | exact ih1 _ _
      | exact ih2 _ _
      | exact LeO.none _
      | refine LeO.ite ?_ ?_
      | refine LeO.bind ?_ (fun _ => ?_)
theorem word_letter.mono : ∀ a0 k, LeO (word_letter.f k a0) (word_letter.f (k + 1) a0) := by
  intro a0 k
  obtain ⟨ih0, ih1, ih2⟩ := word_letter.mono_l k
  unfold word_letter.f
  repeat' first
      | (with_reducible exact ih0 _ _)
      | (with_reducible exact ih1 _ _)
      | (with_reducible exact ih2 _ _)
      | (with_reducible exact LeO.refl _)
      | (with_reducible exact LeO.none _)
      | (with_reducible refine LeO.ite ?_ ?_)
      | (with_reducible refine LeO.bind ?_ (fun _ => ?_))
      | exact ih0 _ _
      | exact ih1 _ _
      | exact ih2 _ _
      | exact LeO.none _
      | refine LeO.ite ?_ ?_
      | refine LeO.bind ?_ (fun _ => ?_)
set_option maxHeartbeats 8000000 in
set_option maxRecDepth 100000 in
theorem word_letter.calls (k : Nat) (a0 : Int) (r : Bool) (w : World) (h : word_letter.f k a0 = some r) :
    Calls Tryd.prog 126 #[.int .u8 a0] w fun e w' => e = .returned (.bool r) ∧ Drawn0 w w' := by
  have H : (if a0 = 95 then (word_letter.j0 k a0 (a0 == 95)) else (word_letter.j0 k a0 (a0 == 36))) = some r := h
  clear h
  have HC2 := Aside0.mk H
  clear H
  go_enter Tryd.func126, Tryd.ntmps126
  go_upto_if 3 with (fail)
  go_cut [3] (fun v3 wc => ∃ (kq : Nat) (x3_1 : Bool), v3 = .bool x3_1 ∧ Aside0 (word_letter.j0 kq a0 x3_1 = some r) ∧ Aside0 (kq ≤ k) ∧ Drawn0 w wc)
  case first =>
    have H := HC2.out
    clear HC2
    by_cases c3 : a0 = 95
    · rw [if_pos c3] at H
      have c3b0 : (a0 == 95) = true := beq_iff_eq.mpr c3
      have c3b1 : (a0 != 95) = false := bne_eq_false_iff_eq.mpr c3
      clear c3
      (first | rw [c3b0] | rw [c3b1] | (simp only [i64_w, i32_w]; rw [c3b0]) | skip)
      have H' := Aside0.mk H
      clear H
      go_wp2
      go_meet
      case rel => exact ⟨_, ((a0 == 95)), (by first | rfl | (simp; done) | (simp [*]; done)), H', ⟨by first | omega | exact Nat.le_refl _⟩, by repeat (first | exact Drawn0.refl _ | apply Drawn0.step)⟩
    · rw [if_neg c3] at H
      have c3b0 : (a0 == 95) = false := beq_eq_false_iff_ne.mpr c3
      have c3b1 : (a0 != 95) = true := bne_iff_ne.mpr c3
      (first | rw [c3b0] | rw [c3b1] | (simp only [i64_w, i32_w]; rw [c3b0]) | skip)
      have H' := Aside0.mk H
      clear H
      go_wp2
      go_meet
      case rel => exact ⟨_, ((a0 == 36)), (by first | rfl | (simp; done) | (simp [*]; done)), H', ⟨by first | omega | exact Nat.le_refl _⟩, by repeat (first | exact Drawn0.refl _ | apply Drawn0.step)⟩
  case rest =>
    clear HC2
    try clear c1
    try clear p2
    try clear c3
    try clear c3b0
    try clear c3b1
    obtain ⟨kq, x3_1, rfl, HA, HJ1, ⟨mc1, rfl⟩⟩ := hcut
    cases kq with
    | zero => exact absurd HA.out (by simp [word_letter.j0])
    | succ kj1 =>
      have H := HA.out
      clear HA
      simp only [word_letter.j0] at H
      by_cases c4 : x3_1 = true
      · subst c4
        have H1 : (some true) = some r := by rw [if_pos rfl] at H; exact H
        clear H
        have H := H1
        clear H1
        obtain rfl := Option.some.inj H
        go_wp2
        go_ret
        exact ⟨by first | rfl | (simp; done) | (simp [*]; done), by repeat (first | exact Drawn0.refl _ | apply Drawn0.step)⟩
      · replace c4 := Bool.eq_false_iff.mpr c4
        subst c4
        have H1 : (if a0 ≥ 65 then (word_letter.j1 kj1 a0 (decide (a0 ≤ 90))) else (word_letter.j1 kj1 a0 false)) = some r := by rw [if_neg (show ¬ (false = true) by decide)] at H; exact H
        clear H
        have H := H1
        clear H1
        have HC5 := Aside0.mk H
        clear H
        go_upto_region 3 with (fail)
        go_cut [8] (fun v8 wc => ∃ (kq : Nat) (x8_4 : Bool), v8 = .bool x8_4 ∧ Aside0 (word_letter.j1 kq a0 x8_4 = some r) ∧ Aside0 (kq ≤ kj1) ∧ Drawn0 w wc)
        case first =>
          have H := HC5.out
          clear HC5
          by_cases c6 : a0 ≥ 65
          · rw [if_pos c6] at H
            have c6b0 : decide (65 ≤ a0) = true := decide_eq_true c6
            clear c6
            (first | rw [c6b0] | rw [c6b1] | (simp only [i64_w, i32_w]; rw [c6b0]) | skip)
            have H' := Aside0.mk H
            clear H
            go_wp2
            go_meet
            case rel => exact ⟨_, (decide (a0 ≤ 90)), (by first | rfl | (simp; done) | (simp [*]; done)), H', ⟨by have := HJ1.out; first | omega | exact Nat.le_refl _⟩, by repeat (first | exact Drawn0.refl _ | apply Drawn0.step)⟩
          · rw [if_neg c6] at H
            have c6b0 : decide (65 ≤ a0) = false := decide_eq_false c6
            clear c6
            (first | rw [c6b0] | rw [c6b1] | (simp only [i64_w, i32_w]; rw [c6b0]) | skip)
            have H' := Aside0.mk H
            clear H
            go_wp2
            go_meet
            case rel => exact ⟨_, (false), (by first | rfl | (simp; done) | (simp [*]; done)), H', ⟨by have := HJ1.out; first | omega | exact Nat.le_refl _⟩, by repeat (first | exact Drawn0.refl _ | apply Drawn0.step)⟩
        case rest =>
          clear HC5
          try clear c1
          try clear p2
          try clear c3
          try clear c3b0
          try clear c3b1
          try clear c4
          try clear c6
          try clear c6b0
          try clear c6b1
          try clear p2
          obtain ⟨kq, x8_4, rfl, HA, HJ4, ⟨mc4, rfl⟩⟩ := hcut
          cases kq with
          | zero => exact absurd HA.out (by simp [word_letter.j1])
          | succ kj4 =>
            have H := HA.out
            clear HA
            simp only [word_letter.j1] at H
            by_cases c7 : x8_4 = true
            · subst c7
              have H1 : (some true) = some r := by rw [if_pos rfl] at H; exact H
              clear H
              have H := H1
              clear H1
              obtain rfl := Option.some.inj H
              go_wp2
              go_ret
              exact ⟨by first | rfl | (simp; done) | (simp [*]; done), by repeat (first | exact Drawn0.refl _ | apply Drawn0.step)⟩
            · replace c7 := Bool.eq_false_iff.mpr c7
              subst c7
              have H1 : (if a0 ≥ 97 then (word_letter.j2 kj4 a0 (decide (a0 ≤ 122))) else (word_letter.j2 kj4 a0 false)) = some r := by rw [if_neg (show ¬ (false = true) by decide)] at H; exact H
              clear H
              have H := H1
              clear H1
              have HC8 := Aside0.mk H
              clear H
              go_upto_region 4 with (fail)
              go_cut [8] (fun v8 wc => ∃ (kq : Nat) (x8_7 : Bool), v8 = .bool x8_7 ∧ Aside0 (word_letter.j2 kq a0 x8_7 = some r) ∧ Aside0 (kq ≤ kj4) ∧ Drawn0 w wc)
              case first =>
                have H := HC8.out
                clear HC8
                by_cases c9 : a0 ≥ 97
                · rw [if_pos c9] at H
                  have c9b0 : decide (97 ≤ a0) = true := decide_eq_true c9
                  clear c9
                  (first | rw [c9b0] | rw [c9b1] | (simp only [i64_w, i32_w]; rw [c9b0]) | skip)
                  have H' := Aside0.mk H
                  clear H
                  go_wp2
                  go_meet
                  case rel => exact ⟨_, (decide (a0 ≤ 122)), (by first | rfl | (simp; done) | (simp [*]; done)), H', ⟨by have := HJ1.out; have := HJ4.out; first | omega | exact Nat.le_refl _⟩, by repeat (first | exact Drawn0.refl _ | apply Drawn0.step)⟩
                · rw [if_neg c9] at H
                  have c9b0 : decide (97 ≤ a0) = false := decide_eq_false c9
                  clear c9
                  (first | rw [c9b0] | rw [c9b1] | (simp only [i64_w, i32_w]; rw [c9b0]) | skip)
                  have H' := Aside0.mk H
                  clear H
                  go_wp2
                  go_meet
                  case rel => exact ⟨_, (false), (by first | rfl | (simp; done) | (simp [*]; done)), H', ⟨by have := HJ1.out; have := HJ4.out; first | omega | exact Nat.le_refl _⟩, by repeat (first | exact Drawn0.refl _ | apply Drawn0.step)⟩
              case rest =>
                clear HC8
                try clear c1
                try clear p2
                try clear c3
                try clear c3b0
                try clear c3b1
                try clear c4
                try clear c6
                try clear c6b0
                try clear c6b1
                try clear c7
                try clear c9
                try clear c9b0
                try clear c9b1
                try clear p2
                obtain ⟨kq, x8_7, rfl, HA, HJ7, ⟨mc7, rfl⟩⟩ := hcut
                cases kq with
                | zero => exact absurd HA.out (by simp [word_letter.j2])
                | succ kj7 =>
                  have H := HA.out
                  clear HA
                  simp only [word_letter.j2] at H
                  by_cases c10 : x8_7 = true
                  · subst c10
                    have H1 : (some true) = some r := by rw [if_pos rfl] at H; exact H
                    clear H
                    have H := H1
                    clear H1
                    obtain rfl := Option.some.inj H
                    go_wp2
                    go_ret
                    exact ⟨by first | rfl | (simp; done) | (simp [*]; done), by repeat (first | exact Drawn0.refl _ | apply Drawn0.step)⟩
                  · replace c10 := Bool.eq_false_iff.mpr c10
                    subst c10
                    have H1 : (if a0 ≥ 48 then (if a0 ≤ 57 then (some true) else (some false)) else (some false)) = some r := by rw [if_neg (show ¬ (false = true) by decide)] at H; exact H
                    clear H
                    have H := H1
                    clear H1
                    by_cases c11 : a0 ≥ 48
                    · rw [if_pos c11] at H
                      have c11b0 : decide (48 ≤ a0) = true := decide_eq_true c11
                      clear c11
                      by_cases c12 : a0 ≤ 57
                      · rw [if_pos c12] at H
                        have c12b0 : decide (a0 ≤ 57) = true := decide_eq_true c12
                        clear c12
                        obtain rfl := Option.some.inj H
                        go_wp2
                        go_ret
                        exact ⟨by first | rfl | (simp; done) | (simp [*]; done), by repeat (first | exact Drawn0.refl _ | apply Drawn0.step)⟩
                      · rw [if_neg c12] at H
                        have c12b0 : decide (a0 ≤ 57) = false := decide_eq_false c12
                        clear c12
                        obtain rfl := Option.some.inj H
                        go_wp2
                        go_ret
                        exact ⟨by first | rfl | (simp; done) | (simp [*]; done), by repeat (first | exact Drawn0.refl _ | apply Drawn0.step)⟩
                    · rw [if_neg c11] at H
                      have c11b0 : decide (48 ≤ a0) = false := decide_eq_false c11
                      clear c11
                      obtain rfl := Option.some.inj H
                      go_wp2
                      go_ret
                      exact ⟨by first | rfl | (simp; done) | (simp [*]; done), by repeat (first | exact Drawn0.refl _ | apply Drawn0.step)⟩

/-! ### word_Parse: function 97 -/
mutual
def word_Parse.j0 : Nat → ByteArray → Bool → Option (Int × Int)
  | 0, _, _ => none
  | k + 1, x0, x16 => if x16 = true then (some (0, 1)) else (word_Parse.l0 k x0 0 (x0.size : Int) 0)
def word_Parse.l0 : Nat → ByteArray → Int → Int → Int → Option (Int × Int)
  | 0, _, _, _, _ => none
  | k + 1, x0, x4, x18, x19 => if x19 < x18 then (if 0 ≤ x19 then (if x19 < (x0.size : Int) then (if (bt x0 x19) < 48 then (some (0, 1)) else (if (bt x0 x19) > 57 then (some (0, 1)) else (word_Parse.l0 k x0 (mn (wrap64 ((wrap64 (x4 * 10)) + (((bt x0 x19) - 48) % 256))) 65537) x18 (wrap64 (x19 + 1))))) else (none)) else (none)) else (if x4 > 65536 then (some (0, 12)) else (some (x4, 0)))
end
def word_Parse.f (k : Nat) (a0 : ByteArray) : Option (Int × Int) := if a0.toList = ([] : List UInt8) then (word_Parse.j0 k a0 true) else (if 0 < (a0.size : Int) then (if (bt a0 0) = 48 then (word_Parse.j0 k a0 (a0.toList != ([48] : List UInt8))) else (word_Parse.j0 k a0 false)) else (none))
theorem word_Parse.mono_l : ∀ k, (∀ y0 y1, LeO (word_Parse.j0 k y0 y1) (word_Parse.j0 (k + 1) y0 y1)) ∧ (∀ y0 y1 y2 y3, LeO (word_Parse.l0 k y0 y1 y2 y3) (word_Parse.l0 (k + 1) y0 y1 y2 y3))
  | 0 => ⟨fun _ _ r h => by simp [word_Parse.j0] at h, fun _ _ _ _ r h => by simp [word_Parse.l0] at h⟩
  | k + 1 => by
    obtain ⟨ih0, ih1⟩ := word_Parse.mono_l k
    refine ⟨?_, ?_⟩
    · intro y0 y1
      unfold word_Parse.j0
      repeat' first
      | (with_reducible exact ih0 _ _)
      | (with_reducible exact ih1 _ _ _ _)
      | (with_reducible exact LeO.refl _)
      | (with_reducible exact LeO.none _)
      | (with_reducible refine LeO.ite ?_ ?_)
      | (with_reducible refine LeO.bind ?_ (fun _ => ?_))
      | exact ih0 _ _
      | exact ih1 _ _ _ _
      | exact LeO.none _
      | refine LeO.ite ?_ ?_
      | refine LeO.bind ?_ (fun _ => ?_)
    · intro y0 y1 y2 y3
      unfold word_Parse.l0
      repeat' first
      | (with_reducible exact ih0 _ _)
      | (with_reducible exact ih1 _ _ _ _)
      | (with_reducible exact LeO.refl _)
      | (with_reducible exact LeO.none _)
      | (with_reducible refine LeO.ite ?_ ?_)
      | (with_reducible refine LeO.bind ?_ (fun _ => ?_))
      | exact ih0 _ _
      | exact ih1 _ _ _ _
      | exact LeO.none _
      | refine LeO.ite ?_ ?_
      | refine LeO.bind ?_ (fun _ => ?_)
theorem word_Parse.mono : ∀ a0 k, LeO (word_Parse.f k a0) (word_Parse.f (k + 1) a0) := by
  intro a0 k
  obtain ⟨ih0, ih1⟩ := word_Parse.mono_l k
  unfold word_Parse.f
  repeat' first
      | (with_reducible exact ih0 _ _)
      | (with_reducible exact ih1 _ _ _ _)
      | (with_reducible exact LeO.refl _)
      | (with_reducible exact LeO.none _)
      | (with_reducible refine LeO.ite ?_ ?_)
      | (with_reducible refine LeO.bind ?_ (fun _ => ?_))
      | exact ih0 _ _
      | exact ih1 _ _ _ _
      | exact LeO.none _
      | refine LeO.ite ?_ ?_
      | refine LeO.bind ?_ (fun _ => ?_)
set_option maxHeartbeats 8000000 in
set_option maxRecDepth 100000 in
theorem word_Parse.calls (k : Nat) (a0 : ByteArray) (r1 : Int) (r2 : Int) (w : World) (h : word_Parse.f k a0 = some (r1, r2)) :
    Calls Tryd.prog 97 #[.string a0] w fun e w' => e = .returned (.tuple #[.int .i64 r1, .int .i64 r2]) ∧ Below w.heap.size w w' := by
  have HB := Aside0.mk (Below.refl w.heap.size w)
  have H : (if a0.toList = ([] : List UInt8) then (word_Parse.j0 k a0 true) else (if 0 < (a0.size : Int) then (if (bt a0 0) = 48 then (word_Parse.j0 k a0 (a0.toList != ([48] : List UInt8))) else (word_Parse.j0 k a0 false)) else (none))) = some (r1, r2) := h
  clear h
  have HC2 := Aside0.mk H
  clear H
  go_enter Tryd.func97, Tryd.ntmps97
  go_upto_region 1 with (fail)
  go_cut [16] (fun v16 wc => ∃ (kq : Nat) (x16_1 : Bool), v16 = .bool x16_1 ∧ Aside0 (word_Parse.j0 kq a0 x16_1 = some (r1, r2)) ∧ Aside0 (kq ≤ k) ∧ Aside0 (Below w.heap.size w wc))
  case first =>
    have H := HC2.out
    clear HC2
    by_cases c3 : a0.toList = ([] : List UInt8)
    · rw [if_pos c3] at H
      have c3b0 : (a0.toList == ([] : List UInt8)) = true := beq_iff_eq.mpr c3
      have c3b1 : (a0.toList != ([] : List UInt8)) = false := bne_eq_false_iff_eq.mpr c3
      clear c3
      (first | rw [c3b0] | rw [c3b1] | (simp only [i64_w, i32_w]; rw [c3b0]) | skip)
      have H' := Aside0.mk H
      clear H
      go_wp2
      go_meet
      case rel => exact ⟨_, (true), (by first | rfl | (simp; done) | (simp [*]; done)), H', ⟨by first | omega | exact Nat.le_refl _⟩, ⟨by repeat (first | (with_reducible first | exact HB.out | apply below_alloc | apply pw_below_drewN | apply below_drew1) | exact HB.out)⟩⟩
    · rw [if_neg c3] at H
      have c3b0 : (a0.toList == ([] : List UInt8)) = false := beq_eq_false_iff_ne.mpr c3
      have c3b1 : (a0.toList != ([] : List UInt8)) = true := bne_iff_ne.mpr c3
      (first | rw [c3b0] | rw [c3b1] | (simp only [i64_w, i32_w]; rw [c3b0]) | skip)
      by_cases c4 : 0 < (a0.size : Int)
      · rw [if_pos c4] at H
        have c4b0 : decide (0 < (a0.size : Int)) = true := decide_eq_true c4
        have c4b1 : decide (0 < a0.size) = true := decide_eq_true (by omega)
        clear c4
        by_cases c6 : (bt a0 0) = 48
        · rw [if_pos c6] at H
          have c6b0 : ((bt a0 0) == 48) = true := beq_iff_eq.mpr c6
          have c6b1 : ((bt a0 0) != 48) = false := bne_eq_false_iff_eq.mpr c6
          clear c6
          have H' := Aside0.mk H
          clear H
          have p5 : 0 ≤ (0 : Int) := (by omega)
          have q5 : 0 < a0.size := (by have : (0 : Int) < (a0.size : Int) := of_decide_eq_true (by first | (with_reducible assumption) | assumption); omega)
          have hx5 : ∀ h : 0 < a0.size, ((a0[0]'h).toNat : Int) = bt a0 0 := bt_at a0 0
          clear p5
          have qi5 : (0 < (a0.size : Int)) = True := eq_true (of_decide_eq_true (by first | (with_reducible assumption) | assumption))
          replace q5 := eq_true q5
          go_wp2
          go_meet
          case rel => exact ⟨_, ((a0.toList != ([48] : List UInt8))), (by first | rfl | (simp; done) | (simp [*]; done)), H', ⟨by first | omega | exact Nat.le_refl _⟩, ⟨by repeat (first | (with_reducible first | exact HB.out | apply below_alloc | apply pw_below_drewN | apply below_drew1) | exact HB.out)⟩⟩
        · rw [if_neg c6] at H
          have c6b0 : ((bt a0 0) == 48) = false := beq_eq_false_iff_ne.mpr c6
          have c6b1 : ((bt a0 0) != 48) = true := bne_iff_ne.mpr c6
          have H' := Aside0.mk H
          clear H
          have p5 : 0 ≤ (0 : Int) := (by omega)
          have q5 : 0 < a0.size := (by have : (0 : Int) < (a0.size : Int) := of_decide_eq_true (by first | (with_reducible assumption) | assumption); omega)
          have hx5 : ∀ h : 0 < a0.size, ((a0[0]'h).toNat : Int) = bt a0 0 := bt_at a0 0
          clear p5
          have qi5 : (0 < (a0.size : Int)) = True := eq_true (of_decide_eq_true (by first | (with_reducible assumption) | assumption))
          replace q5 := eq_true q5
          go_wp2
          go_meet
          case rel => exact ⟨_, (false), (by first | rfl | (simp; done) | (simp [*]; done)), H', ⟨by first | omega | exact Nat.le_refl _⟩, ⟨by repeat (first | (with_reducible first | exact HB.out | apply below_alloc | apply pw_below_drewN | apply below_drew1) | exact HB.out)⟩⟩
      · rw [if_neg c4] at H
        exact absurd H (by simp)
  case rest =>
    clear HC2
    try clear p2
    try clear c3
    try clear c3b0
    try clear c3b1
    try clear c4
    try clear c4b0
    try clear c4b1
    try clear p5
    try clear q5
    try clear hx5
    try clear qi5
    try clear c6
    try clear c6b0
    try clear c6b1
    try clear p5
    try clear q5
    obtain ⟨kq, x16_1, rfl, HA, HJ1, HB⟩ := hcut
    cases kq with
    | zero => exact absurd HA.out (by simp [word_Parse.j0])
    | succ kj1 =>
      have H := HA.out
      clear HA
      simp only [word_Parse.j0] at H
      by_cases c7 : x16_1 = true
      · subst c7
        have H1 : (some (0, 1)) = some (r1, r2) := by rw [if_pos rfl] at H; exact H
        clear H
        have H := H1
        clear H1
        simp only [Option.some.injEq, Prod.mk.injEq] at H
        obtain ⟨rfl, rfl⟩ := H
        go_wp2
        go_ret2
        exact ⟨by first | rfl | (simp [errW_none, errW_some] <;> rfl) | (simp [*, errW_none, errW_some] <;> rfl), by repeat (first | (with_reducible first | exact HB.out | apply below_alloc | apply pw_below_drewN | apply below_drew1) | exact HB.out)⟩
      · replace c7 := Bool.eq_false_iff.mpr c7
        subst c7
        have H1 : (word_Parse.l0 kj1 a0 0 (a0.size : Int) 0) = some (r1, r2) := by rw [if_neg (show ¬ (false = true) by decide)] at H; exact H
        clear H
        have H := H1
        clear H1
        have H' := Aside0.mk H
        clear H
        go_wp2
        go_loopg [4, 19] kj1 (fun kq v4 v19 w' => ∃ (x4_2 : Int) (x19_2 : Int), v4 = .int .i64 x4_2 ∧ v19 = .int .i64 x19_2 ∧ Aside0 (word_Parse.l0 kq a0 x4_2 (a0.size : Int) x19_2 = some (r1, r2)) ∧ Aside0 (kq ≤ kj1) ∧ Aside0 (Below w.heap.size w w'))
        case atStart => exact ⟨(0), (0), (by first | rfl | (simp; done) | (simp [*]; done)), (by first | rfl | (simp; done) | (simp [*]; done)), H', ⟨Nat.le_refl _⟩, ⟨by repeat (first | (with_reducible first | exact HB.out | apply below_alloc | apply pw_below_drewN | apply below_drew1) | exact HB.out)⟩⟩
        case round =>
          clear H'
          try clear p2
          try clear c3
          try clear c3b0
          try clear c3b1
          try clear c4
          try clear c4b0
          try clear c4b1
          try clear p5
          try clear q5
          try clear hx5
          try clear qi5
          try clear c6
          try clear c6b0
          try clear c6b1
          try clear c7
          try clear p2
          try clear p5
          try clear q5
          obtain ⟨x4_2, x19_2, rfl, rfl, HA, HK2, HB⟩ := hrel
          cases gk with
          | zero => exact absurd HA.out (by simp [word_Parse.l0])
          | succ k2 =>
            have H := HA.out
            clear HA
            simp only [word_Parse.l0] at H
            by_cases c8 : x19_2 < (a0.size : Int)
            · rw [if_pos c8] at H
              have c8b0 : decide (x19_2 < (a0.size : Int)) = true := decide_eq_true c8
              clear c8
              by_cases c9 : 0 ≤ x19_2
              · rw [if_pos c9] at H
                have c9b0 : decide (0 ≤ x19_2) = true := decide_eq_true c9
                clear c9
                by_cases c10 : x19_2 < (a0.size : Int)
                · rw [if_pos c10] at H
                  have c10b0 : decide (x19_2 < (a0.size : Int)) = true := decide_eq_true c10
                  clear c10
                  by_cases c12 : (bt a0 x19_2) < 48
                  · rw [if_pos c12] at H
                    have c12b0 : decide ((bt a0 x19_2) < 48) = true := decide_eq_true c12
                    clear c12
                    simp only [Option.some.injEq, Prod.mk.injEq] at H
                    obtain ⟨rfl, rfl⟩ := H
                    have p11 : 0 ≤ (x19_2 : Int) := of_decide_eq_true (by first | (with_reducible assumption) | assumption)
                    have q11 : x19_2 < (a0.size : Int) := of_decide_eq_true (by first | (with_reducible assumption) | assumption)
                    have hx11 := bt_at a0 x19_2
                    replace p11 := eq_true p11
                    replace q11 := eq_true q11
                    go_wp2
                    go_ret2
                    exact ⟨by first | rfl | (simp [errW_none, errW_some] <;> rfl) | (simp [*, errW_none, errW_some] <;> rfl), by repeat (first | (with_reducible first | exact HB.out | apply below_alloc | apply pw_below_drewN | apply below_drew1) | exact HB.out)⟩
                  · rw [if_neg c12] at H
                    have c12b0 : decide ((bt a0 x19_2) < 48) = false := decide_eq_false c12
                    clear c12
                    by_cases c14 : (bt a0 x19_2) > 57
                    · rw [if_pos c14] at H
                      have c14b0 : decide (57 < (bt a0 x19_2)) = true := decide_eq_true c14
                      clear c14
                      simp only [Option.some.injEq, Prod.mk.injEq] at H
                      obtain ⟨rfl, rfl⟩ := H
                      have p11 : 0 ≤ (x19_2 : Int) := of_decide_eq_true (by first | (with_reducible assumption) | assumption)
                      have q11 : x19_2 < (a0.size : Int) := of_decide_eq_true (by first | (with_reducible assumption) | assumption)
                      have hx11 := bt_at a0 x19_2
                      replace p11 := eq_true p11
                      replace q11 := eq_true q11
                      have p13 : 0 ≤ (x19_2 : Int) := of_decide_eq_true (by first | (with_reducible assumption) | assumption)
                      have q13 : x19_2 < (a0.size : Int) := of_decide_eq_true (by first | (with_reducible assumption) | assumption)
                      have hx13 := bt_at a0 x19_2
                      replace p13 := eq_true p13
                      replace q13 := eq_true q13
                      go_wp2
                      go_ret2
                      exact ⟨by first | rfl | (simp [errW_none, errW_some] <;> rfl) | (simp [*, errW_none, errW_some] <;> rfl), by repeat (first | (with_reducible first | exact HB.out | apply below_alloc | apply pw_below_drewN | apply below_drew1) | exact HB.out)⟩
                    · rw [if_neg c14] at H
                      have c14b0 : decide (57 < (bt a0 x19_2)) = false := decide_eq_false c14
                      clear c14
                      obtain ⟨ji16, hji16⟩ : ∃ j_ : Int, (mn (wrap64 ((wrap64 (x4_2 * 10)) + (((bt a0 x19_2) - 48) % 256))) 65537) = j_ := ⟨_, rfl⟩
                      replace H : (word_Parse.l0 k2 a0 ji16 (a0.size : Int) (wrap64 (x19_2 + 1))) = some (r1, r2) := by first | (rw [hji16] at H; exact H) | (simp only [hji16] at H ⊢; exact H)
                      have hji16_ : (if 65537 < (wrap64 ((wrap64 (x4_2 * 10)) + (((bt a0 x19_2) - 48) % 256))) then 65537 else (wrap64 ((wrap64 (x4_2 * 10)) + (((bt a0 x19_2) - 48) % 256)))) = ji16 := hji16
                      have H' := Aside0.mk H
                      clear H
                      have p11 : 0 ≤ (x19_2 : Int) := of_decide_eq_true (by first | (with_reducible assumption) | assumption)
                      have q11 : x19_2 < (a0.size : Int) := of_decide_eq_true (by first | (with_reducible assumption) | assumption)
                      have hx11 := bt_at a0 x19_2
                      replace p11 := eq_true p11
                      replace q11 := eq_true q11
                      have p13 : 0 ≤ (x19_2 : Int) := of_decide_eq_true (by first | (with_reducible assumption) | assumption)
                      have q13 : x19_2 < (a0.size : Int) := of_decide_eq_true (by first | (with_reducible assumption) | assumption)
                      have hx13 := bt_at a0 x19_2
                      replace p13 := eq_true p13
                      replace q13 := eq_true q13
                      have p15 : 0 ≤ (x19_2 : Int) := of_decide_eq_true (by first | (with_reducible assumption) | assumption)
                      have q15 : x19_2 < (a0.size : Int) := of_decide_eq_true (by first | (with_reducible assumption) | assumption)
                      have hx15 := bt_at a0 x19_2
                      replace p15 := eq_true p15
                      replace q15 := eq_true q15
                      go_wp2
                      go_roundg k2
                      case measure => have := HJ1.out; have := HK2.out; omega
                      case rel => exact ⟨(ji16), (wrap64 (x19_2 + 1)), (by first | rfl | (simp; done) | (simp only [← hji16] <;> (first | rfl | simp)) | (simp [*]; done)), (by first | rfl | (simp; done) | (simp [*]; done)), H', ⟨by have := HJ1.out; have := HK2.out; omega⟩, ⟨by repeat (first | (with_reducible first | exact HB.out | apply below_alloc | apply pw_below_drewN | apply below_drew1) | exact HB.out)⟩⟩
                · rw [if_neg c10] at H
                  exact absurd H (by simp)
              · rw [if_neg c9] at H
                exact absurd H (by simp)
            · rw [if_neg c8] at H
              have c8b0 : decide (x19_2 < (a0.size : Int)) = false := decide_eq_false c8
              clear c8
              by_cases c17 : x4_2 > 65536
              · rw [if_pos c17] at H
                have c17b0 : decide (65536 < x4_2) = true := decide_eq_true c17
                clear c17
                simp only [Option.some.injEq, Prod.mk.injEq] at H
                obtain ⟨rfl, rfl⟩ := H
                go_wp2
                go_ret2
                exact ⟨by first | rfl | (simp [errW_none, errW_some] <;> rfl) | (simp [*, errW_none, errW_some] <;> rfl), by repeat (first | (with_reducible first | exact HB.out | apply below_alloc | apply pw_below_drewN | apply below_drew1) | exact HB.out)⟩
              · rw [if_neg c17] at H
                have c17b0 : decide (65536 < x4_2) = false := decide_eq_false c17
                clear c17
                simp only [Option.some.injEq, Prod.mk.injEq] at H
                obtain ⟨rfl, rfl⟩ := H
                go_wp2
                go_ret2
                exact ⟨by first | rfl | (simp [errW_none, errW_some] <;> rfl) | (simp [*, errW_none, errW_some] <;> rfl), by repeat (first | (with_reducible first | exact HB.out | apply below_alloc | apply pw_below_drewN | apply below_drew1) | exact HB.out)⟩

/-! ### secateurref04_letter: function 134 -/
def secateurref04_letter.f (a0 : Int) : Option (Bool) := if a0 ≥ 65 then (if a0 ≤ 90 then (some true) else (if a0 ≥ 97 then (if a0 ≤ 122 then (some true) else (if a0 ≥ 48 then (if a0 ≤ 57 then (some true) else (if a0 = 95 then (some true) else (some (a0 == 36)))) else (if a0 = 95 then (some true) else (some (a0 == 36))))) else (if a0 ≥ 48 then (if a0 ≤ 57 then (some true) else (if a0 = 95 then (some true) else (some (a0 == 36)))) else (if a0 = 95 then (some true) else (some (a0 == 36)))))) else (if a0 ≥ 97 then (if a0 ≤ 122 then (some true) else (if a0 ≥ 48 then (if a0 ≤ 57 then (some true) else (if a0 = 95 then (some true) else (some (a0 == 36)))) else (if a0 = 95 then (some true) else (some (a0 == 36))))) else (if a0 ≥ 48 then (if a0 ≤ 57 then (some true) else (if a0 = 95 then (some true) else (some (a0 == 36)))) else (if a0 = 95 then (some true) else (some (a0 == 36)))))
set_option maxHeartbeats 8000000 in
set_option maxRecDepth 100000 in
theorem secateurref04_letter.calls (a0 : Int) (r : Bool) (w : World) (h : secateurref04_letter.f a0 = some r) :
    Calls Tryd.prog 134 #[.int .u8 a0] w fun e w' => e = .returned (.bool r) ∧ Drawn0 w w' := by
  have H : (if a0 ≥ 65 then (if a0 ≤ 90 then (some true) else (if a0 ≥ 97 then (if a0 ≤ 122 then (some true) else (if a0 ≥ 48 then (if a0 ≤ 57 then (some true) else (if a0 = 95 then (some true) else (some (a0 == 36)))) else (if a0 = 95 then (some true) else (some (a0 == 36))))) else (if a0 ≥ 48 then (if a0 ≤ 57 then (some true) else (if a0 = 95 then (some true) else (some (a0 == 36)))) else (if a0 = 95 then (some true) else (some (a0 == 36)))))) else (if a0 ≥ 97 then (if a0 ≤ 122 then (some true) else (if a0 ≥ 48 then (if a0 ≤ 57 then (some true) else (if a0 = 95 then (some true) else (some (a0 == 36)))) else (if a0 = 95 then (some true) else (some (a0 == 36))))) else (if a0 ≥ 48 then (if a0 ≤ 57 then (some true) else (if a0 = 95 then (some true) else (some (a0 == 36)))) else (if a0 = 95 then (some true) else (some (a0 == 36)))))) = some r := h
  clear h
  by_cases c2 : a0 ≥ 65
  · rw [if_pos c2] at H
    have c2b0 : decide (65 ≤ a0) = true := decide_eq_true c2
    clear c2
    by_cases c3 : a0 ≤ 90
    · rw [if_pos c3] at H
      have c3b0 : decide (a0 ≤ 90) = true := decide_eq_true c3
      clear c3
      obtain rfl := Option.some.inj H
      go_enter Tryd.func134, Tryd.ntmps134
      go_wp2
      go_ret
      exact ⟨by first | rfl | (simp; done) | (simp [*]; done), by repeat (first | exact Drawn0.refl _ | apply Drawn0.step)⟩
    · rw [if_neg c3] at H
      have c3b0 : decide (a0 ≤ 90) = false := decide_eq_false c3
      clear c3
      by_cases c4 : a0 ≥ 97
      · rw [if_pos c4] at H
        have c4b0 : decide (97 ≤ a0) = true := decide_eq_true c4
        clear c4
        by_cases c5 : a0 ≤ 122
        · rw [if_pos c5] at H
          have c5b0 : decide (a0 ≤ 122) = true := decide_eq_true c5
          clear c5
          obtain rfl := Option.some.inj H
          go_enter Tryd.func134, Tryd.ntmps134
          go_wp2
          go_ret
          exact ⟨by first | rfl | (simp; done) | (simp [*]; done), by repeat (first | exact Drawn0.refl _ | apply Drawn0.step)⟩
        · rw [if_neg c5] at H
          have c5b0 : decide (a0 ≤ 122) = false := decide_eq_false c5
          clear c5
          by_cases c6 : a0 ≥ 48
          · rw [if_pos c6] at H
            have c6b0 : decide (48 ≤ a0) = true := decide_eq_true c6
            clear c6
            by_cases c7 : a0 ≤ 57
            · rw [if_pos c7] at H
              have c7b0 : decide (a0 ≤ 57) = true := decide_eq_true c7
              clear c7
              obtain rfl := Option.some.inj H
              go_enter Tryd.func134, Tryd.ntmps134
              go_wp2
              go_ret
              exact ⟨by first | rfl | (simp; done) | (simp [*]; done), by repeat (first | exact Drawn0.refl _ | apply Drawn0.step)⟩
            · rw [if_neg c7] at H
              have c7b0 : decide (a0 ≤ 57) = false := decide_eq_false c7
              clear c7
              by_cases c8 : a0 = 95
              · rw [if_pos c8] at H
                have c8b0 : (a0 == 95) = true := beq_iff_eq.mpr c8
                have c8b1 : (a0 != 95) = false := bne_eq_false_iff_eq.mpr c8
                clear c8
                obtain rfl := Option.some.inj H
                go_enter Tryd.func134, Tryd.ntmps134
                go_wp2
                go_ret
                exact ⟨by first | rfl | (simp; done) | (simp [*]; done), by repeat (first | exact Drawn0.refl _ | apply Drawn0.step)⟩
              · rw [if_neg c8] at H
                have c8b0 : (a0 == 95) = false := beq_eq_false_iff_ne.mpr c8
                have c8b1 : (a0 != 95) = true := bne_iff_ne.mpr c8
                obtain rfl := Option.some.inj H
                go_enter Tryd.func134, Tryd.ntmps134
                go_wp2
                go_ret
                exact ⟨by first | rfl | (simp; done) | (simp [*]; done), by repeat (first | exact Drawn0.refl _ | apply Drawn0.step)⟩
          · rw [if_neg c6] at H
            have c6b0 : decide (48 ≤ a0) = false := decide_eq_false c6
            clear c6
            by_cases c9 : a0 = 95
            · rw [if_pos c9] at H
              have c9b0 : (a0 == 95) = true := beq_iff_eq.mpr c9
              have c9b1 : (a0 != 95) = false := bne_eq_false_iff_eq.mpr c9
              clear c9
              obtain rfl := Option.some.inj H
              go_enter Tryd.func134, Tryd.ntmps134
              go_wp2
              go_ret
              exact ⟨by first | rfl | (simp; done) | (simp [*]; done), by repeat (first | exact Drawn0.refl _ | apply Drawn0.step)⟩
            · rw [if_neg c9] at H
              have c9b0 : (a0 == 95) = false := beq_eq_false_iff_ne.mpr c9
              have c9b1 : (a0 != 95) = true := bne_iff_ne.mpr c9
              obtain rfl := Option.some.inj H
              go_enter Tryd.func134, Tryd.ntmps134
              go_wp2
              go_ret
              exact ⟨by first | rfl | (simp; done) | (simp [*]; done), by repeat (first | exact Drawn0.refl _ | apply Drawn0.step)⟩
      · rw [if_neg c4] at H
        have c4b0 : decide (97 ≤ a0) = false := decide_eq_false c4
        clear c4
        by_cases c10 : a0 ≥ 48
        · rw [if_pos c10] at H
          have c10b0 : decide (48 ≤ a0) = true := decide_eq_true c10
          clear c10
          by_cases c11 : a0 ≤ 57
          · rw [if_pos c11] at H
            have c11b0 : decide (a0 ≤ 57) = true := decide_eq_true c11
            clear c11
            obtain rfl := Option.some.inj H
            go_enter Tryd.func134, Tryd.ntmps134
            go_wp2
            go_ret
            exact ⟨by first | rfl | (simp; done) | (simp [*]; done), by repeat (first | exact Drawn0.refl _ | apply Drawn0.step)⟩
          · rw [if_neg c11] at H
            have c11b0 : decide (a0 ≤ 57) = false := decide_eq_false c11
            clear c11
            by_cases c12 : a0 = 95
            · rw [if_pos c12] at H
              have c12b0 : (a0 == 95) = true := beq_iff_eq.mpr c12
              have c12b1 : (a0 != 95) = false := bne_eq_false_iff_eq.mpr c12
              clear c12
              obtain rfl := Option.some.inj H
              go_enter Tryd.func134, Tryd.ntmps134
              go_wp2
              go_ret
              exact ⟨by first | rfl | (simp; done) | (simp [*]; done), by repeat (first | exact Drawn0.refl _ | apply Drawn0.step)⟩
            · rw [if_neg c12] at H
              have c12b0 : (a0 == 95) = false := beq_eq_false_iff_ne.mpr c12
              have c12b1 : (a0 != 95) = true := bne_iff_ne.mpr c12
              obtain rfl := Option.some.inj H
              go_enter Tryd.func134, Tryd.ntmps134
              go_wp2
              go_ret
              exact ⟨by first | rfl | (simp; done) | (simp [*]; done), by repeat (first | exact Drawn0.refl _ | apply Drawn0.step)⟩
        · rw [if_neg c10] at H
          have c10b0 : decide (48 ≤ a0) = false := decide_eq_false c10
          clear c10
          by_cases c13 : a0 = 95
          · rw [if_pos c13] at H
            have c13b0 : (a0 == 95) = true := beq_iff_eq.mpr c13
            have c13b1 : (a0 != 95) = false := bne_eq_false_iff_eq.mpr c13
            clear c13
            obtain rfl := Option.some.inj H
            go_enter Tryd.func134, Tryd.ntmps134
            go_wp2
            go_ret
            exact ⟨by first | rfl | (simp; done) | (simp [*]; done), by repeat (first | exact Drawn0.refl _ | apply Drawn0.step)⟩
          · rw [if_neg c13] at H
            have c13b0 : (a0 == 95) = false := beq_eq_false_iff_ne.mpr c13
            have c13b1 : (a0 != 95) = true := bne_iff_ne.mpr c13
            obtain rfl := Option.some.inj H
            go_enter Tryd.func134, Tryd.ntmps134
            go_wp2
            go_ret
            exact ⟨by first | rfl | (simp; done) | (simp [*]; done), by repeat (first | exact Drawn0.refl _ | apply Drawn0.step)⟩
  · rw [if_neg c2] at H
    have c2b0 : decide (65 ≤ a0) = false := decide_eq_false c2
    clear c2
    by_cases c14 : a0 ≥ 97
    · rw [if_pos c14] at H
      have c14b0 : decide (97 ≤ a0) = true := decide_eq_true c14
      clear c14
      by_cases c15 : a0 ≤ 122
      · rw [if_pos c15] at H
        have c15b0 : decide (a0 ≤ 122) = true := decide_eq_true c15
        clear c15
        obtain rfl := Option.some.inj H
        go_enter Tryd.func134, Tryd.ntmps134
        go_wp2
        go_ret
        exact ⟨by first | rfl | (simp; done) | (simp [*]; done), by repeat (first | exact Drawn0.refl _ | apply Drawn0.step)⟩
      · rw [if_neg c15] at H
        have c15b0 : decide (a0 ≤ 122) = false := decide_eq_false c15
        clear c15
        by_cases c16 : a0 ≥ 48
        · rw [if_pos c16] at H
          have c16b0 : decide (48 ≤ a0) = true := decide_eq_true c16
          clear c16
          by_cases c17 : a0 ≤ 57
          · rw [if_pos c17] at H
            have c17b0 : decide (a0 ≤ 57) = true := decide_eq_true c17
            clear c17
            obtain rfl := Option.some.inj H
            go_enter Tryd.func134, Tryd.ntmps134
            go_wp2
            go_ret
            exact ⟨by first | rfl | (simp; done) | (simp [*]; done), by repeat (first | exact Drawn0.refl _ | apply Drawn0.step)⟩
          · rw [if_neg c17] at H
            have c17b0 : decide (a0 ≤ 57) = false := decide_eq_false c17
            clear c17
            by_cases c18 : a0 = 95
            · rw [if_pos c18] at H
              have c18b0 : (a0 == 95) = true := beq_iff_eq.mpr c18
              have c18b1 : (a0 != 95) = false := bne_eq_false_iff_eq.mpr c18
              clear c18
              obtain rfl := Option.some.inj H
              go_enter Tryd.func134, Tryd.ntmps134
              go_wp2
              go_ret
              exact ⟨by first | rfl | (simp; done) | (simp [*]; done), by repeat (first | exact Drawn0.refl _ | apply Drawn0.step)⟩
            · rw [if_neg c18] at H
              have c18b0 : (a0 == 95) = false := beq_eq_false_iff_ne.mpr c18
              have c18b1 : (a0 != 95) = true := bne_iff_ne.mpr c18
              obtain rfl := Option.some.inj H
              go_enter Tryd.func134, Tryd.ntmps134
              go_wp2
              go_ret
              exact ⟨by first | rfl | (simp; done) | (simp [*]; done), by repeat (first | exact Drawn0.refl _ | apply Drawn0.step)⟩
        · rw [if_neg c16] at H
          have c16b0 : decide (48 ≤ a0) = false := decide_eq_false c16
          clear c16
          by_cases c19 : a0 = 95
          · rw [if_pos c19] at H
            have c19b0 : (a0 == 95) = true := beq_iff_eq.mpr c19
            have c19b1 : (a0 != 95) = false := bne_eq_false_iff_eq.mpr c19
            clear c19
            obtain rfl := Option.some.inj H
            go_enter Tryd.func134, Tryd.ntmps134
            go_wp2
            go_ret
            exact ⟨by first | rfl | (simp; done) | (simp [*]; done), by repeat (first | exact Drawn0.refl _ | apply Drawn0.step)⟩
          · rw [if_neg c19] at H
            have c19b0 : (a0 == 95) = false := beq_eq_false_iff_ne.mpr c19
            have c19b1 : (a0 != 95) = true := bne_iff_ne.mpr c19
            obtain rfl := Option.some.inj H
            go_enter Tryd.func134, Tryd.ntmps134
            go_wp2
            go_ret
            exact ⟨by first | rfl | (simp; done) | (simp [*]; done), by repeat (first | exact Drawn0.refl _ | apply Drawn0.step)⟩
    · rw [if_neg c14] at H
      have c14b0 : decide (97 ≤ a0) = false := decide_eq_false c14
      clear c14
      by_cases c20 : a0 ≥ 48
      · rw [if_pos c20] at H
        have c20b0 : decide (48 ≤ a0) = true := decide_eq_true c20
        clear c20
        by_cases c21 : a0 ≤ 57
        · rw [if_pos c21] at H
          have c21b0 : decide (a0 ≤ 57) = true := decide_eq_true c21
          clear c21
          obtain rfl := Option.some.inj H
          go_enter Tryd.func134, Tryd.ntmps134
          go_wp2
          go_ret
          exact ⟨by first | rfl | (simp; done) | (simp [*]; done), by repeat (first | exact Drawn0.refl _ | apply Drawn0.step)⟩
        · rw [if_neg c21] at H
          have c21b0 : decide (a0 ≤ 57) = false := decide_eq_false c21
          clear c21
          by_cases c22 : a0 = 95
          · rw [if_pos c22] at H
            have c22b0 : (a0 == 95) = true := beq_iff_eq.mpr c22
            have c22b1 : (a0 != 95) = false := bne_eq_false_iff_eq.mpr c22
            clear c22
            obtain rfl := Option.some.inj H
            go_enter Tryd.func134, Tryd.ntmps134
            go_wp2
            go_ret
            exact ⟨by first | rfl | (simp; done) | (simp [*]; done), by repeat (first | exact Drawn0.refl _ | apply Drawn0.step)⟩
          · rw [if_neg c22] at H
            have c22b0 : (a0 == 95) = false := beq_eq_false_iff_ne.mpr c22
            have c22b1 : (a0 != 95) = true := bne_iff_ne.mpr c22
            obtain rfl := Option.some.inj H
            go_enter Tryd.func134, Tryd.ntmps134
            go_wp2
            go_ret
            exact ⟨by first | rfl | (simp; done) | (simp [*]; done), by repeat (first | exact Drawn0.refl _ | apply Drawn0.step)⟩
      · rw [if_neg c20] at H
        have c20b0 : decide (48 ≤ a0) = false := decide_eq_false c20
        clear c20
        by_cases c23 : a0 = 95
        · rw [if_pos c23] at H
          have c23b0 : (a0 == 95) = true := beq_iff_eq.mpr c23
          have c23b1 : (a0 != 95) = false := bne_eq_false_iff_eq.mpr c23
          clear c23
          obtain rfl := Option.some.inj H
          go_enter Tryd.func134, Tryd.ntmps134
          go_wp2
          go_ret
          exact ⟨by first | rfl | (simp; done) | (simp [*]; done), by repeat (first | exact Drawn0.refl _ | apply Drawn0.step)⟩
        · rw [if_neg c23] at H
          have c23b0 : (a0 == 95) = false := beq_eq_false_iff_ne.mpr c23
          have c23b1 : (a0 != 95) = true := bne_iff_ne.mpr c23
          obtain rfl := Option.some.inj H
          go_enter Tryd.func134, Tryd.ntmps134
          go_wp2
          go_ret
          exact ⟨by first | rfl | (simp; done) | (simp [*]; done), by repeat (first | exact Drawn0.refl _ | apply Drawn0.step)⟩

end Go.Proofs.YtmlbfepibfobaaaDoor.Q4
end

section
-- Written by this session's program layer.py (the kit's print, turned), not by hand.
namespace Go.Proofs.YtmlbfepibfobaaaDoor.Q4
open Go.RowKit Go.Proofs.YtmlbfepibfobaaaDoorW.PrintWords Go.Proofs.YtmlbfepibfobaaaDoorW.PrintLast Go.Proofs.YtmlbfepibfobaaaDoorW.PrintMore
attribute [local go_sem] max2_int min2_int max_two min_two max_three min_three max_four min_four   -- for this text's walks alone
set_option linter.unusedVariables false
set_option linter.unusedSimpArgs false

/-! ### secateurref04_all: function 111 -/
mutual
def secateurref04_all.j0 : Nat → ByteArray → Int → Bool → Option (Bool)
  | 0, _, _, _ => none
  | k + 1, x0, x1, x13 => if x13 = true then (some false) else (secateurref04_all.l0 k x0 x1 0)
def secateurref04_all.l0 : Nat → ByteArray → Int → Int → Option (Bool)
  | 0, _, _, _ => none
  | k + 1, x0, x1, x5 => if x5 < (x0.size : Int) then (if 0 ≤ x5 then ((secateurref04_letter.f (bt x0 x5)).bind fun t101 => (if t101 = true then (secateurref04_all.l0 k x0 x1 (wrap64 (x5 + 1))) else (if (bt x0 x5) = x1 then (secateurref04_all.l0 k x0 x1 (wrap64 (x5 + 1))) else (some false)))) else (none)) else (some true)
end
def secateurref04_all.f (k : Nat) (a0 : ByteArray) (a1 : Int) : Option (Bool) := if (a0.size : Int) < 1 then (secateurref04_all.j0 k a0 a1 true) else (secateurref04_all.j0 k a0 a1 (decide ((a0.size : Int) > 32)))
theorem secateurref04_all.mono_l : ∀ k, (∀ y0 y1 y2, LeO (secateurref04_all.j0 k y0 y1 y2) (secateurref04_all.j0 (k + 1) y0 y1 y2)) ∧ (∀ y0 y1 y2, LeO (secateurref04_all.l0 k y0 y1 y2) (secateurref04_all.l0 (k + 1) y0 y1 y2))
  | 0 => ⟨fun _ _ _ r h => by simp [secateurref04_all.j0] at h, fun _ _ _ r h => by simp [secateurref04_all.l0] at h⟩
  | k + 1 => by
    obtain ⟨ih0, ih1⟩ := secateurref04_all.mono_l k
    refine ⟨?_, ?_⟩
    · intro y0 y1 y2
      unfold secateurref04_all.j0
      repeat' first
      | (with_reducible exact ih0 _ _ _)
      | (with_reducible exact ih1 _ _ _)
      | (with_reducible exact LeO.refl _)
      | (with_reducible exact LeO.none _)
      | (with_reducible refine LeO.ite ?_ ?_)
      | (with_reducible refine LeO.bind ?_ (fun _ => ?_))
      | exact ih0 _ _ _
      | exact ih1 _ _ _
      | exact LeO.none _
      | refine LeO.ite ?_ ?_
      | refine LeO.bind ?_ (fun _ => ?_)
    · intro y0 y1 y2
      unfold secateurref04_all.l0
      repeat' first
      | (with_reducible exact ih0 _ _ _)
      | (with_reducible exact ih1 _ _ _)
      | (with_reducible exact LeO.refl _)
      | (with_reducible exact LeO.none _)
      | (with_reducible refine LeO.ite ?_ ?_)
      | (with_reducible refine LeO.bind ?_ (fun _ => ?_))
      | exact ih0 _ _ _
      | exact ih1 _ _ _
      | exact LeO.none _
      | refine LeO.ite ?_ ?_
      | refine LeO.bind ?_ (fun _ => ?_)
theorem secateurref04_all.mono : ∀ a0 a1 k, LeO (secateurref04_all.f k a0 a1) (secateurref04_all.f (k + 1) a0 a1) := by
  intro a0 a1 k
  obtain ⟨ih0, ih1⟩ := secateurref04_all.mono_l k
  unfold secateurref04_all.f
  repeat' first
      | (with_reducible exact ih0 _ _ _)
      | (with_reducible exact ih1 _ _ _)
      | (with_reducible exact LeO.refl _)
      | (with_reducible exact LeO.none _)
      | (with_reducible refine LeO.ite ?_ ?_)
      | (with_reducible refine LeO.bind ?_ (fun _ => ?_))
      | exact ih0 _ _ _
      | exact ih1 _ _ _
      | exact LeO.none _
      | refine LeO.ite ?_ ?_
      | refine LeO.bind ?_ (fun _ => ?_)
set_option maxHeartbeats 8000000 in
set_option maxRecDepth 100000 in
theorem secateurref04_all.calls (k : Nat) (a0 : ByteArray) (a1 : Int) (r : Bool) (w : World) (h : secateurref04_all.f k a0 a1 = some r) :
    Calls Tryd.prog 111 #[.string a0, .int .u8 a1] w fun e w' => e = .returned (.bool r) ∧ Drawn0 w w' := by
  have H : (if (a0.size : Int) < 1 then (secateurref04_all.j0 k a0 a1 true) else (secateurref04_all.j0 k a0 a1 (decide ((a0.size : Int) > 32)))) = some r := h
  clear h
  have HC3 := Aside0.mk H
  clear H
  go_enter Tryd.func111, Tryd.ntmps111
  go_upto_region 1 with (fail)
  go_cut [13] (fun v13 wc => ∃ (kq : Nat) (x13_2 : Bool), v13 = .bool x13_2 ∧ Aside0 (secateurref04_all.j0 kq a0 a1 x13_2 = some r) ∧ Aside0 (kq ≤ k) ∧ Drawn0 w wc)
  case first =>
    have H := HC3.out
    clear HC3
    by_cases c4 : (a0.size : Int) < 1
    · rw [if_pos c4] at H
      have c4b0 : decide ((a0.size : Int) < 1) = true := decide_eq_true c4
      have c4b1 : decide (a0.size < 1) = true := decide_eq_true (by omega)
      clear c4
      (first | rw [c4b0] | rw [c4b1] | (simp only [i64_w, i32_w]; rw [c4b0]) | skip)
      have H' := Aside0.mk H
      clear H
      go_wp2
      go_meet
      case rel => exact ⟨_, (true), (by first | rfl | (simp; done) | (simp [*]; done)), H', ⟨by first | omega | exact Nat.le_refl _⟩, by repeat (first | exact Drawn0.refl _ | apply Drawn0.step)⟩
    · rw [if_neg c4] at H
      have c4b0 : decide ((a0.size : Int) < 1) = false := decide_eq_false c4
      have c4b1 : decide (a0.size < 1) = false := decide_eq_false (by omega)
      clear c4
      (first | rw [c4b0] | rw [c4b1] | (simp only [i64_w, i32_w]; rw [c4b0]) | skip)
      have H' := Aside0.mk H
      clear H
      go_wp2
      go_meet
      case rel => exact ⟨_, (decide ((a0.size : Int) > 32)), (by first | rfl | (simp; done) | (simp [*]; done)), H', ⟨by first | omega | exact Nat.le_refl _⟩, by repeat (first | exact Drawn0.refl _ | apply Drawn0.step)⟩
  case rest =>
    clear HC3
    try clear c1
    try clear p2
    try clear c4
    try clear c4b0
    try clear c4b1
    obtain ⟨kq, x13_2, rfl, HA, HJ2, ⟨mc2, rfl⟩⟩ := hcut
    cases kq with
    | zero => exact absurd HA.out (by simp [secateurref04_all.j0])
    | succ kj2 =>
      have H := HA.out
      clear HA
      simp only [secateurref04_all.j0] at H
      by_cases c5 : x13_2 = true
      · subst c5
        have H1 : (some false) = some r := by rw [if_pos rfl] at H; exact H
        clear H
        have H := H1
        clear H1
        obtain rfl := Option.some.inj H
        go_wp2
        go_ret
        exact ⟨by first | rfl | (simp; done) | (simp [*]; done), by repeat (first | exact Drawn0.refl _ | apply Drawn0.step)⟩
      · replace c5 := Bool.eq_false_iff.mpr c5
        subst c5
        have H1 : (secateurref04_all.l0 kj2 a0 a1 0) = some r := by rw [if_neg (show ¬ (false = true) by decide)] at H; exact H
        clear H
        have H := H1
        clear H1
        have H' := Aside0.mk H
        clear H
        go_wp2
        go_loopg [5] kj2 (fun kq v5 w' => ∃ (x5_2 : Int), v5 = .int .i64 x5_2 ∧ Aside0 (secateurref04_all.l0 kq a0 a1 x5_2 = some r) ∧ Aside0 (kq ≤ kj2) ∧ Drawn0 w w')
        case atStart => exact ⟨(0), (by first | rfl | (simp; done) | (simp [*]; done)), H', ⟨Nat.le_refl _⟩, by repeat (first | exact Drawn0.refl _ | apply Drawn0.step)⟩
        case round =>
          clear H'
          try clear c1
          try clear c2
          try clear p2
          try clear c4
          try clear c4b0
          try clear c4b1
          try clear c5
          try clear p2
          obtain ⟨x5_2, rfl, HA, HK2, ⟨m2, rfl⟩⟩ := hrel
          cases gk with
          | zero => exact absurd HA.out (by simp [secateurref04_all.l0])
          | succ k2 =>
            have H := HA.out
            clear HA
            simp only [secateurref04_all.l0] at H
            by_cases c6 : x5_2 < (a0.size : Int)
            · rw [if_pos c6] at H
              have c6b0 : decide (x5_2 < (a0.size : Int)) = true := decide_eq_true c6
              clear c6
              by_cases c7 : 0 ≤ x5_2
              · rw [if_pos c7] at H
                have c7b0 : decide (0 ≤ x5_2) = true := decide_eq_true c7
                clear c7
                replace H := Option.bind_eq_some_iff.mp H
                obtain ⟨t101, A90, H⟩ := H
                replace H : (if t101 = true then (secateurref04_all.l0 k2 a0 a1 (wrap64 (x5_2 + 1))) else (if (bt a0 x5_2) = a1 then (secateurref04_all.l0 k2 a0 a1 (wrap64 (x5_2 + 1))) else (some false))) = some r := H
                have A9 := Aside0.mk A90
                clear A90
                by_cases c10 : t101 = true
                · subst c10
                  have H1 : (secateurref04_all.l0 k2 a0 a1 (wrap64 (x5_2 + 1))) = some r := by rw [if_pos rfl] at H; exact H
                  clear H
                  have H := H1
                  clear H1
                  have H' := Aside0.mk H
                  clear H
                  have p8 : 0 ≤ (x5_2 : Int) := of_decide_eq_true (by first | (with_reducible assumption) | assumption)
                  have q8 : x5_2 < (a0.size : Int) := of_decide_eq_true (by first | (with_reducible assumption) | assumption)
                  have hx8 := bt_at a0 x5_2
                  replace p8 := eq_true p8
                  replace q8 := eq_true q8
                  go_wp2_with (first | ((with_reducible refine gate_callee (f := 134) rfl ?_); refine goesL_ (some 23) rfl rfl Tryd.func134 (by kernel_rfl) rfl #[.int .u8 (bt a0 x5_2)] rfl (by (try simp only [List.map_toArray, List.map_cons, List.map_nil]); first | done | rfl | (simp only [List.length_drop, List.length_take]; rfl)) ?_; (with_reducible refine (secateurref04_letter.calls (bt a0 x5_2) true _ A9.out).mono ?_); rintro e w' ⟨rfl, ⟨nd, rfl⟩⟩; refine ⟨_, rfl, ?_⟩))
                  go_roundg k2
                  case measure => have := HJ2.out; have := HK2.out; omega
                  case rel => exact ⟨(wrap64 (x5_2 + 1)), (by first | rfl | (simp; done) | (simp [*]; done)), H', ⟨by have := HJ2.out; have := HK2.out; omega⟩, by repeat (first | exact Drawn0.refl _ | apply Drawn0.step)⟩
                · replace c10 := Bool.eq_false_iff.mpr c10
                  subst c10
                  have H1 : (if (bt a0 x5_2) = a1 then (secateurref04_all.l0 k2 a0 a1 (wrap64 (x5_2 + 1))) else (some false)) = some r := by rw [if_neg (show ¬ (false = true) by decide)] at H; exact H
                  clear H
                  have H := H1
                  clear H1
                  by_cases c12 : (bt a0 x5_2) = a1
                  · rw [if_pos c12] at H
                    have c12b0 : ((bt a0 x5_2) == a1) = true := beq_iff_eq.mpr c12
                    have c12b1 : ((bt a0 x5_2) != a1) = false := bne_eq_false_iff_eq.mpr c12
                    clear c12
                    have H' := Aside0.mk H
                    clear H
                    have p8 : 0 ≤ (x5_2 : Int) := of_decide_eq_true (by first | (with_reducible assumption) | assumption)
                    have q8 : x5_2 < (a0.size : Int) := of_decide_eq_true (by first | (with_reducible assumption) | assumption)
                    have hx8 := bt_at a0 x5_2
                    replace p8 := eq_true p8
                    replace q8 := eq_true q8
                    go_wp2_with (first | ((with_reducible refine gate_callee (f := 134) rfl ?_); refine goesL_ (some 23) rfl rfl Tryd.func134 (by kernel_rfl) rfl #[.int .u8 (bt a0 x5_2)] rfl (by (try simp only [List.map_toArray, List.map_cons, List.map_nil]); first | done | rfl | (simp only [List.length_drop, List.length_take]; rfl)) ?_; (with_reducible refine (secateurref04_letter.calls (bt a0 x5_2) false _ A9.out).mono ?_); rintro e w' ⟨rfl, ⟨nd, rfl⟩⟩; refine ⟨_, rfl, ?_⟩; have p11 : 0 ≤ (x5_2 : Int) := of_decide_eq_true (by first | (with_reducible assumption) | assumption); have q11 : x5_2 < (a0.size : Int) := of_decide_eq_true (by first | (with_reducible assumption) | assumption); have hx11 := bt_at a0 x5_2; replace p11 := eq_true p11; replace q11 := eq_true q11))
                    go_roundg k2
                    case measure => have := HJ2.out; have := HK2.out; omega
                    case rel => exact ⟨(wrap64 (x5_2 + 1)), (by first | rfl | (simp; done) | (simp [*]; done)), H', ⟨by have := HJ2.out; have := HK2.out; omega⟩, by repeat (first | exact Drawn0.refl _ | apply Drawn0.step)⟩
                  · rw [if_neg c12] at H
                    have c12b0 : ((bt a0 x5_2) == a1) = false := beq_eq_false_iff_ne.mpr c12
                    have c12b1 : ((bt a0 x5_2) != a1) = true := bne_iff_ne.mpr c12
                    obtain rfl := Option.some.inj H
                    have p8 : 0 ≤ (x5_2 : Int) := of_decide_eq_true (by first | (with_reducible assumption) | assumption)
                    have q8 : x5_2 < (a0.size : Int) := of_decide_eq_true (by first | (with_reducible assumption) | assumption)
                    have hx8 := bt_at a0 x5_2
                    replace p8 := eq_true p8
                    replace q8 := eq_true q8
                    go_wp2_with (first | ((with_reducible refine gate_callee (f := 134) rfl ?_); refine goesL_ (some 23) rfl rfl Tryd.func134 (by kernel_rfl) rfl #[.int .u8 (bt a0 x5_2)] rfl (by (try simp only [List.map_toArray, List.map_cons, List.map_nil]); first | done | rfl | (simp only [List.length_drop, List.length_take]; rfl)) ?_; (with_reducible refine (secateurref04_letter.calls (bt a0 x5_2) false _ A9.out).mono ?_); rintro e w' ⟨rfl, ⟨nd, rfl⟩⟩; refine ⟨_, rfl, ?_⟩; have p11 : 0 ≤ (x5_2 : Int) := of_decide_eq_true (by first | (with_reducible assumption) | assumption); have q11 : x5_2 < (a0.size : Int) := of_decide_eq_true (by first | (with_reducible assumption) | assumption); have hx11 := bt_at a0 x5_2; replace p11 := eq_true p11; replace q11 := eq_true q11))
                    go_ret
                    exact ⟨by first | rfl | (simp; done) | (simp [*]; done), by repeat (first | exact Drawn0.refl _ | apply Drawn0.step)⟩
              · rw [if_neg c7] at H
                exact absurd H (by simp)
            · rw [if_neg c6] at H
              have c6b0 : decide (x5_2 < (a0.size : Int)) = false := decide_eq_false c6
              clear c6
              obtain rfl := Option.some.inj H
              go_wp2
              go_ret
              exact ⟨by first | rfl | (simp; done) | (simp [*]; done), by repeat (first | exact Drawn0.refl _ | apply Drawn0.step)⟩

/-! ### secateurref04_Name: function 64 -/
def secateurref04_Name.f (k : Nat) (a0 : ByteArray) : Option (Bool) := if a0.toList = ([60, 99, 108, 105, 110, 105, 116, 62] : List UInt8) then (some true) else ((secateurref04_all.f k a0 95).bind fun t102 => (some t102))
theorem secateurref04_Name.mono : ∀ a0 k, LeO (secateurref04_Name.f k a0) (secateurref04_Name.f (k + 1) a0) := by
  intro a0 k
  unfold secateurref04_Name.f
  repeat' first
      | (with_reducible exact secateurref04_all.mono _ _ _)
      | (with_reducible exact LeO.refl _)
      | (with_reducible exact LeO.none _)
      | (with_reducible refine LeO.ite ?_ ?_)
      | (with_reducible refine LeO.bind ?_ (fun _ => ?_))
      | exact secateurref04_all.mono _ _ _
      | exact LeO.none _
      | refine LeO.ite ?_ ?_
      | refine LeO.bind ?_ (fun _ => ?_)
set_option maxHeartbeats 8000000 in
set_option maxRecDepth 100000 in
theorem secateurref04_Name.calls (k : Nat) (a0 : ByteArray) (r : Bool) (w : World) (h : secateurref04_Name.f k a0 = some r) :
    Calls Tryd.prog 64 #[.string a0] w fun e w' => e = .returned (.bool r) ∧ Drawn0 w w' := by
  have H : (if a0.toList = ([60, 99, 108, 105, 110, 105, 116, 62] : List UInt8) then (some true) else ((secateurref04_all.f k a0 95).bind fun t102 => (some t102))) = some r := h
  clear h
  by_cases c2 : a0.toList = ([60, 99, 108, 105, 110, 105, 116, 62] : List UInt8)
  · rw [if_pos c2] at H
    have c2b0 : (a0.toList == ([60, 99, 108, 105, 110, 105, 116, 62] : List UInt8)) = true := beq_iff_eq.mpr c2
    have c2b1 : (a0.toList != ([60, 99, 108, 105, 110, 105, 116, 62] : List UInt8)) = false := bne_eq_false_iff_eq.mpr c2
    clear c2
    obtain rfl := Option.some.inj H
    go_enter Tryd.func64, Tryd.ntmps64
    go_wp2
    go_ret
    exact ⟨by first | rfl | (simp; done) | (simp [*]; done), by repeat (first | exact Drawn0.refl _ | apply Drawn0.step)⟩
  · rw [if_neg c2] at H
    have c2b0 : (a0.toList == ([60, 99, 108, 105, 110, 105, 116, 62] : List UInt8)) = false := beq_eq_false_iff_ne.mpr c2
    have c2b1 : (a0.toList != ([60, 99, 108, 105, 110, 105, 116, 62] : List UInt8)) = true := bne_iff_ne.mpr c2
    replace H := Option.bind_eq_some_iff.mp H
    obtain ⟨t102, A30, H⟩ := H
    replace H : (some t102) = some r := H
    have A3 := Aside0.mk A30
    clear A30
    obtain rfl := Option.some.inj H
    go_enter Tryd.func64, Tryd.ntmps64
    go_wp2_with (first | (go_at_call 111; (with_reducible refine (secateurref04_all.calls k a0 95 t102 _ A3.out).mono ?_); rintro e w' ⟨rfl, ⟨nd, rfl⟩⟩))
    go_ret
    exact ⟨by first | rfl | (simp; done) | (simp [*]; done), by repeat (first | exact Drawn0.refl _ | apply Drawn0.step)⟩

/-! ### secateurref04_Class: function 63 -/
def secateurref04_Class.f (k : Nat) (a0 : ByteArray) : Option (Bool) := (secateurref04_all.f k a0 47).bind fun t103 => (some t103)
theorem secateurref04_Class.mono : ∀ a0 k, LeO (secateurref04_Class.f k a0) (secateurref04_Class.f (k + 1) a0) := by
  intro a0 k
  unfold secateurref04_Class.f
  repeat' first
      | (with_reducible exact secateurref04_all.mono _ _ _)
      | (with_reducible exact LeO.refl _)
      | (with_reducible exact LeO.none _)
      | (with_reducible refine LeO.ite ?_ ?_)
      | (with_reducible refine LeO.bind ?_ (fun _ => ?_))
      | exact secateurref04_all.mono _ _ _
      | exact LeO.none _
      | refine LeO.ite ?_ ?_
      | refine LeO.bind ?_ (fun _ => ?_)
set_option maxHeartbeats 8000000 in
set_option maxRecDepth 100000 in
theorem secateurref04_Class.calls (k : Nat) (a0 : ByteArray) (r : Bool) (w : World) (h : secateurref04_Class.f k a0 = some r) :
    Calls Tryd.prog 63 #[.string a0] w fun e w' => e = .returned (.bool r) ∧ Drawn0 w w' := by
  have H : ((secateurref04_all.f k a0 47).bind fun t103 => (some t103)) = some r := h
  clear h
  replace H := Option.bind_eq_some_iff.mp H
  obtain ⟨t103, A20, H⟩ := H
  replace H : (some t103) = some r := H
  have A2 := Aside0.mk A20
  clear A20
  obtain rfl := Option.some.inj H
  go_enter Tryd.func63, Tryd.ntmps63
  go_wp2_with (first | ((with_reducible refine gate_callee (f := 111) rfl ?_); refine goesL_ (some 4) rfl rfl Tryd.func111 (by kernel_rfl) rfl #[.string a0, .int .u8 47] rfl (by (try simp only [List.map_toArray, List.map_cons, List.map_nil]); first | done | rfl | (simp only [List.length_drop, List.length_take]; rfl)) ?_; (with_reducible refine (secateurref04_all.calls k a0 47 t103 _ A2.out).mono ?_); rintro e w' ⟨rfl, ⟨nd, rfl⟩⟩; refine ⟨_, rfl, ?_⟩))
  go_ret
  exact ⟨by first | rfl | (simp; done) | (simp [*]; done), by repeat (first | exact Drawn0.refl _ | apply Drawn0.step)⟩

end Go.Proofs.YtmlbfepibfobaaaDoor.Q4
end

section
-- Written by this session's program layer.py (the kit's print, turned), not by hand.
namespace Go.Proofs.YtmlbfepibfobaaaDoor.Q4
open Go.RowKit Go.Proofs.YtmlbfepibfobaaaDoorW.PrintWords Go.Proofs.YtmlbfepibfobaaaDoorW.PrintLast Go.Proofs.YtmlbfepibfobaaaDoorW.PrintMore
attribute [local go_sem] max2_int min2_int max_two min_two max_three min_three max_four min_four   -- for this text's walks alone
set_option linter.unusedVariables false
set_option linter.unusedSimpArgs false

end Go.Proofs.YtmlbfepibfobaaaDoor.Q4
end

section
/-
  DERIVED: THE SHELF's CONTRACTS AT THIS DUMP, IN PLAIN WORDS (tools/lay-plain.mjs out of 'YtmlbfepibfobaaaDoorShelf.lean', which tools/lay-shelf.mjs wrote): THE SAME DECLARATIONS UNDER THE SAME NAMES: 'import', 'namespace', 'open', 'def', 'theorem' AND NOTHING ELSE: no command of the shelf's: FOR A HAND-IN. Each laying: the table of numbers ('.._ren') and one theorem, a field a fact of the dump's own or the kernel's comparison; each contract: ONE APPLICATION.
-/
namespace Go.Proofs
open Go.Shelf
def Tryd.lays169_ren : Go.Shelf.Ren := ⟨fun | 169 => 95 | n => n, fun | 70 => 100 | 9 => 9 | 0 => 0 | 72 => 102 | 37 => 22 | 127 => 138 | 3 => 3 | 5 => 5 | n => n, fun | n => n⟩
theorem Tryd.lays169 : Go.Proofs.Lays.n169 Tryd.prog Tryd.lays169_ren := {
  mixed := by kernel_rfl
  f169 := Tryd.func95.trans (congrArg some (by kernel_rfl))
  t0 := Tryd.underlying0
  a0 := Tryd.isAgg0
  z0 := Tryd.sizeOf0
  v0 := Tryd.zeroValue0
  t3 := Tryd.underlying3
  a3 := Tryd.isAgg3
  z3 := Tryd.sizeOf3
  v3 := Tryd.zeroValue3
  t9 := Tryd.underlying9
  a9 := Tryd.isAgg9
  z9 := Tryd.sizeOf9
  v9 := Tryd.zeroValue9
  t37 := Tryd.underlying22
  a37 := Tryd.isAgg22
  z37 := Tryd.sizeOf22
  v37 := Tryd.zeroValue22
  t70 := Tryd.underlying100
  a70 := Tryd.isAgg100
  z70 := Tryd.sizeOf100
  v70 := Tryd.zeroValue100
  t72 := Tryd.underlying102
  a72 := Tryd.isAgg102
  z72 := Tryd.sizeOf102
  v72 := Tryd.zeroValue102
  t127 := Tryd.underlying138
  a127 := Tryd.isAgg138
  z127 := Tryd.sizeOf138
  v127 := Tryd.zeroValue138 }
theorem Tryd.Builder_Extra_169 : Builder.Extra Tryd.prog Tryd.lays169_ren := {
  sizeBuilder := by kernel_rfl
  liesBuilder := by kernel_rfl
  t5 := Tryd.underlying5
  a5 := Tryd.isAgg5
  z5 := Tryd.sizeOf5
  v5 := Tryd.zeroValue5
  infoByte := by kernel_rfl
  cellsByte := by kernel_rfl
  sizeByte := by kernel_rfl
  neB5 := by decide }
open Go.RowKit in
/-- (*strings.Builder).String: "String returns the accumulated string.": OF A BUILDER THAT HOLDS AT LEAST ONE BYTE. ✋ THE MODEL FREEZES THOSE BYTES IN THE BUFFER (unsafe.String): a later write INTO them ends the model's run without an answer; a later append BEHIND them goes on. The statement's order of evaluation is drawn: one draw. (LAID: no walk: one application.) -/
theorem Tryd.Builder_String (B b : Nat) (l : List UInt8) (w : World) (h : Lib.IsBuilder 102 5 B b (Lib.byteCells l) w) (h0 : l ≠ []) :
    Calls Tryd.prog 95 #[.pointer (some ⟨b, 0, none⟩)] w fun e w' => e = .returned (.string ⟨l.toArray⟩) ∧ Below B w w' := Any.Builder_String Tryd.lays169 Tryd.Builder_Extra_169 B b l w h h0
open Go.RowKit in
/-- (*strings.Builder).String OF A BUILDER THAT HOLDS NO BYTE: the empty string. (Its buffer is nil, or a row of which it has taken nothing yet; where that row has NO capacity the model lays one new block for unsafe.SliceData's 'some address'.) One draw. (LAID: no walk: one application.) -/
theorem Tryd.Builder_String_empty (B b : Nat) (w : World) (h : Lib.IsBuilder 102 5 B b [] w) (hBw : B ≤ w.heap.size) :
    Calls Tryd.prog 95 #[.pointer (some ⟨b, 0, none⟩)] w fun e w' => e = .returned (.string ⟨#[]⟩) ∧ Below B w w' := Any.Builder_String_empty Tryd.lays169 Tryd.Builder_Extra_169 B b w h hBw
open Go.RowKit in
/-- (*strings.Builder).String: "String returns the accumulated string.": WHATEVER THE BUILDER HOLDS. (LAID: no walk: one application.) -/
theorem Tryd.Builder_String_any (B b : Nat) (l : List UInt8) (w : World) (h : Lib.IsBuilder 102 5 B b (Lib.byteCells l) w) (hBw : B ≤ w.heap.size) :
    Calls Tryd.prog 95 #[.pointer (some ⟨b, 0, none⟩)] w fun e w' => e = .returned (.string ⟨l.toArray⟩) ∧ Below B w w' := Any.Builder_String_any Tryd.lays169 Tryd.Builder_Extra_169 B b l w h hBw
def Tryd.lays241_ren : Go.Shelf.Ren := ⟨fun | 241 => 147 | 277 => 154 | n => n, fun | 70 => 100 | 3 => 3 | 0 => 0 | 72 => 102 | 37 => 22 | 5 => 5 | n => n, fun | n => n⟩
theorem Tryd.lays241 : Go.Proofs.Lays.n241 Tryd.prog Tryd.lays241_ren := {
  mixed := by kernel_rfl
  f241 := Tryd.func147.trans (congrArg some (by kernel_rfl))
  f277 := Tryd.func154.trans (congrArg some (by kernel_rfl))
  t0 := Tryd.underlying0
  a0 := Tryd.isAgg0
  z0 := Tryd.sizeOf0
  v0 := Tryd.zeroValue0
  t3 := Tryd.underlying3
  a3 := Tryd.isAgg3
  z3 := Tryd.sizeOf3
  v3 := Tryd.zeroValue3
  t37 := Tryd.underlying22
  a37 := Tryd.isAgg22
  z37 := Tryd.sizeOf22
  v37 := Tryd.zeroValue22
  t70 := Tryd.underlying100
  a70 := Tryd.isAgg100
  z70 := Tryd.sizeOf100
  v70 := Tryd.zeroValue100
  t72 := Tryd.underlying102
  a72 := Tryd.isAgg102
  z72 := Tryd.sizeOf102
  v72 := Tryd.zeroValue102 }
theorem Tryd.Builder_Extra_241 : Builder.Extra Tryd.prog Tryd.lays241_ren := {
  sizeBuilder := by kernel_rfl
  liesBuilder := by kernel_rfl
  t5 := Tryd.underlying5
  a5 := Tryd.isAgg5
  z5 := Tryd.sizeOf5
  v5 := Tryd.zeroValue5
  infoByte := by kernel_rfl
  cellsByte := by kernel_rfl
  sizeByte := by kernel_rfl
  neB5 := by decide }
open Go.RowKit in
/-- (*strings.Builder).grow (no doc but "grow copies the buffer to a new, larger buffer so that there are at least n bytes of capacity beyond len(b.buf)."): AT A BUILDER WITHOUT A BUFFER: a new row of whatever bytes for its buffer, none of them its own yet. Three draws. (LAID: no walk: one application.) -/
theorem Tryd.Builder_grow_fresh (B b n : Nat) (w : World) (hB : B ≤ b) (hbk : w.heap[b]? = some (.cells #[.pointer (some ⟨b, 0, none⟩), .slice none 0 0] 102 (0, 0))) (hBw : B ≤ w.heap.size) (hn : n ≤ 281474976710656) :
    Calls Tryd.prog 147 #[.pointer (some ⟨b, 0, none⟩), .int .i64 n] w fun e w' => e = .returned (.tuple #[]) ∧ (Lib.BuilderAt 102 5 B b (.pointer (some ⟨b, 0, none⟩)) [] w' ∧ Below B w w') := Any.Builder_grow_fresh Tryd.lays241 Tryd.Builder_Extra_241 B b n w hB hbk hBw hn
def Tryd.lays165_ren : Go.Shelf.Ren := ⟨fun | 165 => 133 | 240 => 122 | 241 => 147 | 276 => 140 | 277 => 154 | n => n, fun | 70 => 100 | 3 => 3 | 0 => 0 | 4 => 4 | 9 => 9 | 20 => 20 | 72 => 102 | 37 => 22 | 164 => 154 | 5 => 5 | n => n, fun | n => n⟩
theorem Tryd.lays165 : Go.Proofs.Lays.n165 Tryd.prog Tryd.lays165_ren := {
  mixed := by kernel_rfl
  f165 := Tryd.func133.trans (congrArg some (by kernel_rfl))
  f240 := Tryd.func122.trans (congrArg some (by kernel_rfl))
  f241 := Tryd.func147.trans (congrArg some (by kernel_rfl))
  f276 := Tryd.func140.trans (congrArg some (by kernel_rfl))
  f277 := Tryd.func154.trans (congrArg some (by kernel_rfl))
  t0 := Tryd.underlying0
  a0 := Tryd.isAgg0
  z0 := Tryd.sizeOf0
  v0 := Tryd.zeroValue0
  t3 := Tryd.underlying3
  a3 := Tryd.isAgg3
  z3 := Tryd.sizeOf3
  v3 := Tryd.zeroValue3
  t4 := Tryd.underlying4
  a4 := Tryd.isAgg4
  z4 := Tryd.sizeOf4
  v4 := Tryd.zeroValue4
  t9 := Tryd.underlying9
  a9 := Tryd.isAgg9
  z9 := Tryd.sizeOf9
  v9 := Tryd.zeroValue9
  t20 := Tryd.underlying20
  a20 := Tryd.isAgg20
  z20 := Tryd.sizeOf20
  v20 := Tryd.zeroValue20
  t37 := Tryd.underlying22
  a37 := Tryd.isAgg22
  z37 := Tryd.sizeOf22
  v37 := Tryd.zeroValue22
  t70 := Tryd.underlying100
  a70 := Tryd.isAgg100
  z70 := Tryd.sizeOf100
  v70 := Tryd.zeroValue100
  t72 := Tryd.underlying102
  a72 := Tryd.isAgg102
  z72 := Tryd.sizeOf102
  v72 := Tryd.zeroValue102
  t164 := Tryd.underlying154
  a164 := Tryd.isAgg154
  z164 := Tryd.sizeOf154
  v164 := Tryd.zeroValue154 }
theorem Tryd.Builder_Extra_165 : Builder.Extra Tryd.prog Tryd.lays165_ren := {
  sizeBuilder := by kernel_rfl
  liesBuilder := by kernel_rfl
  t5 := Tryd.underlying5
  a5 := Tryd.isAgg5
  z5 := Tryd.sizeOf5
  v5 := Tryd.zeroValue5
  infoByte := by kernel_rfl
  cellsByte := by kernel_rfl
  sizeByte := by kernel_rfl
  neB5 := by decide }
open Go.RowKit in
/-- (*strings.Builder).Grow AT A BUILDER THAT HAS NOT BEEN WRITTEN ('var b strings.Builder; b.Grow(n)'): "Grow grows b's capacity, if necessary, to guarantee space for another n bytes.": it holds no byte behind it as before it. (LAID: no walk: one application.) -/
theorem Tryd.Builder_Grow_fresh (B b n : Nat) (w : World) (hB : B ≤ b) (hbk : w.heap[b]? = some (.cells #[.pointer none, .slice none 0 0] 102 (0, 0))) (hBw : B ≤ w.heap.size) (hn : n ≤ 281474976710656) :
    Calls Tryd.prog 133 #[.pointer (some ⟨b, 0, none⟩), .int .i64 n] w fun e w' => e = .returned (.tuple #[]) ∧ (Lib.BuilderAt 102 5 B b (.pointer (some ⟨b, 0, none⟩)) [] w' ∧ Below B w w') := Any.Builder_Grow_fresh Tryd.lays165 Tryd.Builder_Extra_165 B b n w hB hbk hBw hn
def Tryd.lays156_ren : Go.Shelf.Ren := ⟨fun | 156 => 104 | 165 => 133 | 166 => 93 | 169 => 95 | 240 => 122 | 241 => 147 | 276 => 140 | 277 => 154 | n => n, fun | 31 => 57 | 9 => 9 | 3 => 3 | 4 => 4 | 0 => 0 | 20 => 20 | 72 => 102 | 76 => 105 | 70 => 100 | 37 => 22 | 75 => 104 | 127 => 138 | 164 => 154 | 5 => 5 | 80 => 40 | n => n, fun | n => n⟩
theorem Tryd.lays156 : Go.Proofs.Lays.n156 Tryd.prog Tryd.lays156_ren := {
  mixed := by kernel_rfl
  f156 := Tryd.func104.trans (congrArg some (by kernel_rfl))
  f165 := Tryd.func133.trans (congrArg some (by kernel_rfl))
  f166 := Tryd.func93.trans (congrArg some (by kernel_rfl))
  f169 := Tryd.func95.trans (congrArg some (by kernel_rfl))
  f240 := Tryd.func122.trans (congrArg some (by kernel_rfl))
  f241 := Tryd.func147.trans (congrArg some (by kernel_rfl))
  f276 := Tryd.func140.trans (congrArg some (by kernel_rfl))
  f277 := Tryd.func154.trans (congrArg some (by kernel_rfl))
  t0 := Tryd.underlying0
  a0 := Tryd.isAgg0
  z0 := Tryd.sizeOf0
  v0 := Tryd.zeroValue0
  t3 := Tryd.underlying3
  a3 := Tryd.isAgg3
  z3 := Tryd.sizeOf3
  v3 := Tryd.zeroValue3
  t4 := Tryd.underlying4
  a4 := Tryd.isAgg4
  z4 := Tryd.sizeOf4
  v4 := Tryd.zeroValue4
  t9 := Tryd.underlying9
  a9 := Tryd.isAgg9
  z9 := Tryd.sizeOf9
  v9 := Tryd.zeroValue9
  t20 := Tryd.underlying20
  a20 := Tryd.isAgg20
  z20 := Tryd.sizeOf20
  v20 := Tryd.zeroValue20
  t31 := Tryd.underlying57
  a31 := Tryd.isAgg57
  z31 := Tryd.sizeOf57
  v31 := Tryd.zeroValue57
  t37 := Tryd.underlying22
  a37 := Tryd.isAgg22
  z37 := Tryd.sizeOf22
  v37 := Tryd.zeroValue22
  t70 := Tryd.underlying100
  a70 := Tryd.isAgg100
  z70 := Tryd.sizeOf100
  v70 := Tryd.zeroValue100
  t72 := Tryd.underlying102
  a72 := Tryd.isAgg102
  z72 := Tryd.sizeOf102
  v72 := Tryd.zeroValue102
  t75 := Tryd.underlying104
  a75 := Tryd.isAgg104
  z75 := Tryd.sizeOf104
  v75 := Tryd.zeroValue104
  t76 := Tryd.underlying105
  a76 := Tryd.isAgg105
  z76 := Tryd.sizeOf105
  v76 := Tryd.zeroValue105
  t127 := Tryd.underlying138
  a127 := Tryd.isAgg138
  z127 := Tryd.sizeOf138
  v127 := Tryd.zeroValue138
  t164 := Tryd.underlying154
  a164 := Tryd.isAgg154
  z164 := Tryd.sizeOf154
  v164 := Tryd.zeroValue154 }
theorem Tryd.Builder_Extra_156 : Builder.Extra Tryd.prog Tryd.lays156_ren := {
  sizeBuilder := by kernel_rfl
  liesBuilder := by kernel_rfl
  t5 := Tryd.underlying5
  a5 := Tryd.isAgg5
  z5 := Tryd.sizeOf5
  v5 := Tryd.zeroValue5
  infoByte := by kernel_rfl
  cellsByte := by kernel_rfl
  sizeByte := by kernel_rfl
  neB5 := by decide }
open Go.RowKit in
/-- No element: the empty string; the world is as it was. (Whatever the slice's address and capacity: a nil slice too.) (LAID: no walk: one application.) -/
theorem Tryd.strings_Join_none (a : Option Addr) (c : Nat) (sep : ByteArray) (w : World) :
    Calls Tryd.prog 104 #[.slice a 0 c, .string sep] w fun e w' => e = .returned (.string ⟨#[]⟩) ∧ w' = w := Any.strings_Join_none Tryd.lays156 Tryd.Builder_Extra_156 a c sep w
open Go.RowKit in
/-- strings.Join: "Join concatenates the elements of its first argument to create a single string. The separator string sep is placed between elements in the resulting string.": HOWEVER MANY ELEMENTS. Below the heap's end the world is as it was. (LAID: no walk: one application.) -/
theorem Tryd.strings_Join (bk o c : Nat) (xs : List ByteArray) (sep : ByteArray) (w : World) (hcells : ∀ (j : Nat) x, xs[j]? = some x → w.cell? ⟨bk, o + j, none⟩ = some (.string x)) (hbk : bk < w.heap.size) (hN : xs.length ≤ 140737488355328) (hcap : xs.length ≤ c) (hlen : (Lib.join (xs.map (·.data.toList)) sep.data.toList).length ≤ 140737488355328) :
    Calls Tryd.prog 104 #[.slice (some ⟨bk, o, none⟩) xs.length c, .string sep] w fun e w' => e = .returned (.string ⟨(Lib.join (xs.map (·.data.toList)) sep.data.toList).toArray⟩) ∧ Below w.heap.size w w' := Any.strings_Join Tryd.lays156 Tryd.Builder_Extra_156 bk o c xs sep w hcells hbk hN hcap hlen
open Go.RowKit in
/-- (*strings.Builder).String: "String returns the accumulated string.": OF A BUILDER THAT HOLDS AT LEAST ONE BYTE. ✋ THE MODEL FREEZES THOSE BYTES IN THE BUFFER (unsafe.String): a later write INTO them ends the model's run without an answer; a later append BEHIND them goes on. The statement's order of evaluation is drawn: one draw. THE FORM '_f': IT SAYS BESIDES THAT THE BUILDER IS A BUILDER STILL ('Lib.IsBuilderF', the same bytes): SO IT CAN BE WRITTEN ON: 'b.WriteString(b.String()[:k])'. (LAID: no walk: one application.) -/
theorem Tryd.Builder_String_f (B b : Nat) (l : List UInt8) (w : World) (h : Lib.IsBuilderF 102 5 B b (Lib.byteCells l) w) (h0 : l ≠ []) :
    Calls Tryd.prog 95 #[.pointer (some ⟨b, 0, none⟩)] w fun e w' => e = .returned (.string ⟨l.toArray⟩) ∧ (Lib.IsBuilderF 102 5 B b (Lib.byteCells l) w' ∧ Below B w w') := Any.Builder_String_f Tryd.lays169 Tryd.Builder_Extra_169 B b l w h h0
open Go.RowKit in
/-- (*strings.Builder).String OF A BUILDER THAT HOLDS NO BYTE: the empty string; THE FORM '_f': a builder still. (LAID: no walk: one application.) -/
theorem Tryd.Builder_String_empty_f (B b : Nat) (w : World) (h : Lib.IsBuilderF 102 5 B b [] w) (hBw : B ≤ w.heap.size) :
    Calls Tryd.prog 95 #[.pointer (some ⟨b, 0, none⟩)] w fun e w' => e = .returned (.string ⟨#[]⟩) ∧ (Lib.IsBuilderF 102 5 B b [] w' ∧ Below B w w') := Any.Builder_String_empty_f Tryd.lays169 Tryd.Builder_Extra_169 B b w h hBw
open Go.RowKit in
/-- (*strings.Builder).String: "String returns the accumulated string.": WHATEVER THE BUILDER HOLDS; THE FORM '_f': OF A BUILDER THAT MAY HAVE BEEN READ BEFORE; AND IT IS A BUILDER STILL, holding the same bytes: it can be written on. (LAID: no walk: one application.) -/
theorem Tryd.Builder_String_any_f (B b : Nat) (l : List UInt8) (w : World) (h : Lib.IsBuilderF 102 5 B b (Lib.byteCells l) w) (hBw : B ≤ w.heap.size) :
    Calls Tryd.prog 95 #[.pointer (some ⟨b, 0, none⟩)] w fun e w' => e = .returned (.string ⟨l.toArray⟩) ∧ (Lib.IsBuilderF 102 5 B b (Lib.byteCells l) w' ∧ Below B w w') := Any.Builder_String_any_f Tryd.lays169 Tryd.Builder_Extra_169 B b l w h hBw
def Tryd.lays217_ren : Go.Shelf.Ren := ⟨fun | 217 => 155 | 266 => 160 | n => n, fun | 9 => 9 | 5 => 5 | 3 => 3 | n => n, fun | n => n⟩
theorem Tryd.lays217 : Go.Proofs.Lays.n217 Tryd.prog Tryd.lays217_ren := {
  mixed := by kernel_rfl
  f217 := Tryd.func155.trans (congrArg some (by kernel_rfl))
  f266 := Tryd.func160.trans (congrArg some (by kernel_rfl))
  t3 := Tryd.underlying3
  a3 := Tryd.isAgg3
  z3 := Tryd.sizeOf3
  v3 := Tryd.zeroValue3
  t5 := Tryd.underlying5
  a5 := Tryd.isAgg5
  z5 := Tryd.sizeOf5
  v5 := Tryd.zeroValue5
  t9 := Tryd.underlying9
  a9 := Tryd.isAgg9
  z9 := Tryd.sizeOf9
  v9 := Tryd.zeroValue9 }
open Go.RowKit Go.Lib in
/-- internal/stringslite.IndexByte (what strings.IndexByte calls): IT RETURNS 'Lib.indexByte s c'; the world is as it was. (LAID: no walk: one application.) -/
theorem Tryd.stringslite_IndexByte (s : ByteArray) (c : Int) (w : World) :
    Calls Tryd.prog 155 #[.string s, .int .u8 c] w fun e w' => e = .returned (.int .i64 (Lib.indexByte s.data.toList c.toNat.toUInt8)) ∧ w' = w := Any.stringslite_IndexByte Tryd.lays217 s c w
def Tryd.lays224_ren : Go.Shelf.Ren := ⟨fun | 224 => 157 | n => n, fun | 3 => 3 | n => n, fun | n => n⟩
theorem Tryd.lays224 : Go.Proofs.Lays.n224 Tryd.prog Tryd.lays224_ren := {
  mixed := by kernel_rfl
  f224 := Tryd.func157.trans (congrArg some (by kernel_rfl))
  t3 := Tryd.underlying3
  a3 := Tryd.isAgg3
  z3 := Tryd.sizeOf3
  v3 := Tryd.zeroValue3 }
open Go.RowKit Go.Lib in
/-- internal/bytealg.Cutover: "Cutover reports the number of failures of IndexByte we should tolerate before switching over to Index. n is the number of bytes processed so far.": on amd64: (n + 16) / 8. (LAID: no walk: one application.) -/
theorem Tryd.bytealg_Cutover (n : Int) (h0 : 0 ≤ n) (h1 : n < 4611686018427387904) (w : World) :
    Calls Tryd.prog 157 #[.int .i64 n] w fun e w' => e = .returned (.int .i64 ((n + 16) / 8)) ∧ w' = w := Any.bytealg_Cutover Tryd.lays224 n h0 h1 w
def Tryd.lays314_ren : Go.Shelf.Ren := ⟨fun | 314 => 161 | n => n, fun | 9 => 9 | 51 => 127 | 3 => 3 | 4 => 4 | 5 => 5 | 46 => 124 | n => n, fun | n => n⟩
theorem Tryd.lays314 : Go.Proofs.Lays.n314 Tryd.prog Tryd.lays314_ren := {
  mixed := by kernel_rfl
  f314 := Tryd.func161.trans (congrArg some (by kernel_rfl))
  t3 := Tryd.underlying3
  a3 := Tryd.isAgg3
  z3 := Tryd.sizeOf3
  v3 := Tryd.zeroValue3
  t4 := Tryd.underlying4
  a4 := Tryd.isAgg4
  z4 := Tryd.sizeOf4
  v4 := Tryd.zeroValue4
  t5 := Tryd.underlying5
  a5 := Tryd.isAgg5
  z5 := Tryd.sizeOf5
  v5 := Tryd.zeroValue5
  t9 := Tryd.underlying9
  a9 := Tryd.isAgg9
  z9 := Tryd.sizeOf9
  v9 := Tryd.zeroValue9
  t46 := Tryd.underlying124
  a46 := Tryd.isAgg124
  z46 := Tryd.sizeOf124
  v46 := Tryd.zeroValue124
  t51 := Tryd.underlying127
  a51 := Tryd.isAgg127
  z51 := Tryd.sizeOf127
  v51 := Tryd.zeroValue127 }
open Go.RowKit Go.Lib in
/-- hashStr: "returns the hash and the appropriate multiplicative factor for use in Rabin-Karp algorithm": THE HASH OF ALL OF sep, AND 16777619 ^ len(sep), both in uint32. (LAID: no walk: one application.) -/
theorem Tryd.bytealg_hashStr (sep : ByteArray) (hs : sep.size < 4294967281) (w : World) :
    Calls Tryd.prog 161 #[.string sep] w fun e w' => e = .returned (.tuple #[.int .u32 (RK.H sep.data.toList % 4294967296), .int .u32 (16777619 ^ sep.size % 4294967296)]) ∧ w' = w := Any.bytealg_hashStr Tryd.lays314 sep hs w
def Tryd.lays267_ren : Go.Shelf.Ren := ⟨fun | 267 => 158 | 314 => 161 | n => n, fun | 9 => 9 | 3 => 3 | 146 => 164 | 51 => 127 | 4 => 4 | 5 => 5 | 46 => 124 | n => n, fun | n => n⟩
theorem Tryd.lays267 : Go.Proofs.Lays.n267 Tryd.prog Tryd.lays267_ren := {
  mixed := by kernel_rfl
  f267 := Tryd.func158.trans (congrArg some (by kernel_rfl))
  f314 := Tryd.func161.trans (congrArg some (by kernel_rfl))
  t3 := Tryd.underlying3
  a3 := Tryd.isAgg3
  z3 := Tryd.sizeOf3
  v3 := Tryd.zeroValue3
  t4 := Tryd.underlying4
  a4 := Tryd.isAgg4
  z4 := Tryd.sizeOf4
  v4 := Tryd.zeroValue4
  t5 := Tryd.underlying5
  a5 := Tryd.isAgg5
  z5 := Tryd.sizeOf5
  v5 := Tryd.zeroValue5
  t9 := Tryd.underlying9
  a9 := Tryd.isAgg9
  z9 := Tryd.sizeOf9
  v9 := Tryd.zeroValue9
  t46 := Tryd.underlying124
  a46 := Tryd.isAgg124
  z46 := Tryd.sizeOf124
  v46 := Tryd.zeroValue124
  t51 := Tryd.underlying127
  a51 := Tryd.isAgg127
  z51 := Tryd.sizeOf127
  v51 := Tryd.zeroValue127
  t146 := Tryd.underlying164
  a146 := Tryd.isAgg164
  z146 := Tryd.sizeOf164
  v146 := Tryd.zeroValue164 }
open Go.RowKit Go.Lib in
theorem Tryd.bytealg_IndexRabinKarp (s sep : ByteArray) (h1 : 1 ≤ sep.size) (h2 : sep.size ≤ s.size) (hs : s.size < 4294967281) (w : World) :
    Calls Tryd.prog 158 #[.string s, .string sep] w fun e w' => e = .returned (.int .i64 (Lib.index s.data.toList sep.data.toList)) ∧ w' = w := Any.bytealg_IndexRabinKarp Tryd.lays267 s sep h1 h2 hs w
def Tryd.lays219_ren : Go.Shelf.Ren := ⟨fun | 219 => 150 | 217 => 155 | 225 => 156 | 224 => 157 | 267 => 158 | 266 => 160 | 314 => 161 | n => n, fun | 9 => 9 | 3 => 3 | 4 => 4 | 5 => 5 | 46 => 124 | 146 => 164 | 51 => 127 | n => n, fun | 1 => 0 | n => n⟩
theorem Tryd.lays219 : Go.Proofs.Lays.n219 Tryd.prog Tryd.lays219_ren := {
  mixed := by kernel_rfl
  f217 := Tryd.func155.trans (congrArg some (by kernel_rfl))
  f219 := Tryd.func150.trans (congrArg some (by kernel_rfl))
  f224 := Tryd.func157.trans (congrArg some (by kernel_rfl))
  f225 := Tryd.func156.trans (congrArg some (by kernel_rfl))
  f266 := Tryd.func160.trans (congrArg some (by kernel_rfl))
  f267 := Tryd.func158.trans (congrArg some (by kernel_rfl))
  f314 := Tryd.func161.trans (congrArg some (by kernel_rfl))
  t3 := Tryd.underlying3
  a3 := Tryd.isAgg3
  z3 := Tryd.sizeOf3
  v3 := Tryd.zeroValue3
  t4 := Tryd.underlying4
  a4 := Tryd.isAgg4
  z4 := Tryd.sizeOf4
  v4 := Tryd.zeroValue4
  t5 := Tryd.underlying5
  a5 := Tryd.isAgg5
  z5 := Tryd.sizeOf5
  v5 := Tryd.zeroValue5
  t9 := Tryd.underlying9
  a9 := Tryd.isAgg9
  z9 := Tryd.sizeOf9
  v9 := Tryd.zeroValue9
  t46 := Tryd.underlying124
  a46 := Tryd.isAgg124
  z46 := Tryd.sizeOf124
  v46 := Tryd.zeroValue124
  t51 := Tryd.underlying127
  a51 := Tryd.isAgg127
  z51 := Tryd.sizeOf127
  v51 := Tryd.zeroValue127
  t146 := Tryd.underlying164
  a146 := Tryd.isAgg164
  z146 := Tryd.sizeOf164
  v146 := Tryd.zeroValue164
  g1 := by kernel_rfl }
open Go.RowKit Go.Lib in
/-- internal/stringslite.Index (what strings.Index calls) AT A substr OF ONE BYTE c: IT RETURNS 'Lib.indexByte s c'; the world is as it was. (LAID: no walk: one application.) -/
theorem Tryd.stringslite_Index_one (s : ByteArray) (c : UInt8) (w : World) :
    Calls Tryd.prog 150 #[.string s, .string ⟨#[c]⟩] w fun e w' => e = .returned (.int .i64 (Lib.indexByte s.data.toList c)) ∧ w' = w := Any.stringslite_Index_one Tryd.lays219 s c w
open Go.RowKit Go.Lib in
/-- internal/stringslite.Index (what strings.Index calls) AT A substr OF WHATEVER LENGTH: IT RETURNS 'Lib.index s substr'; the world is as it was. 'm': what internal/bytealg.MaxLen holds: whatever. (LAID: no walk: one application.) -/
theorem Tryd.stringslite_Index (s sub : ByteArray) (m : Int) (w : World) (hs : s.size < 4294967281) (hm : w.cell? ⟨0, 0, none⟩ = some (.int .i64 m)) :
    Calls Tryd.prog 150 #[.string s, .string sub] w fun e w' => e = .returned (.int .i64 (Lib.index s.data.toList sub.data.toList)) ∧ w' = w := Any.stringslite_Index Tryd.lays219 s sub m w hs hm
def Tryd.lays143_ren : Go.Shelf.Ren := ⟨fun | 143 => 146 | 219 => 150 | 217 => 155 | 225 => 156 | 224 => 157 | 267 => 158 | 266 => 160 | 314 => 161 | n => n, fun | 9 => 9 | 3 => 3 | 4 => 4 | 5 => 5 | 46 => 124 | 146 => 164 | 51 => 127 | n => n, fun | 1 => 0 | n => n⟩
theorem Tryd.lays143 : Go.Proofs.Lays.n143 Tryd.prog Tryd.lays143_ren := {
  mixed := by kernel_rfl
  f143 := Tryd.func146.trans (congrArg some (by kernel_rfl))
  f217 := Tryd.func155.trans (congrArg some (by kernel_rfl))
  f219 := Tryd.func150.trans (congrArg some (by kernel_rfl))
  f224 := Tryd.func157.trans (congrArg some (by kernel_rfl))
  f225 := Tryd.func156.trans (congrArg some (by kernel_rfl))
  f266 := Tryd.func160.trans (congrArg some (by kernel_rfl))
  f267 := Tryd.func158.trans (congrArg some (by kernel_rfl))
  f314 := Tryd.func161.trans (congrArg some (by kernel_rfl))
  t3 := Tryd.underlying3
  a3 := Tryd.isAgg3
  z3 := Tryd.sizeOf3
  v3 := Tryd.zeroValue3
  t4 := Tryd.underlying4
  a4 := Tryd.isAgg4
  z4 := Tryd.sizeOf4
  v4 := Tryd.zeroValue4
  t5 := Tryd.underlying5
  a5 := Tryd.isAgg5
  z5 := Tryd.sizeOf5
  v5 := Tryd.zeroValue5
  t9 := Tryd.underlying9
  a9 := Tryd.isAgg9
  z9 := Tryd.sizeOf9
  v9 := Tryd.zeroValue9
  t46 := Tryd.underlying124
  a46 := Tryd.isAgg124
  z46 := Tryd.sizeOf124
  v46 := Tryd.zeroValue124
  t51 := Tryd.underlying127
  a51 := Tryd.isAgg127
  z51 := Tryd.sizeOf127
  v51 := Tryd.zeroValue127
  t146 := Tryd.underlying164
  a146 := Tryd.isAgg164
  z146 := Tryd.sizeOf164
  v146 := Tryd.zeroValue164
  g1 := by kernel_rfl }
open Go.RowKit Go.Lib in
/-- strings.Index: "Index returns the index of the first instance of substr in s, or -1 if substr is not present in s.": AT A substr OF ONE BYTE c: IT RETURNS 'Lib.indexByte s c'; the world is as it was. (LAID: no walk: one application.) -/
theorem Tryd.strings_Index_one (s : ByteArray) (c : UInt8) (w : World) :
    Calls Tryd.prog 146 #[.string s, .string ⟨#[c]⟩] w fun e w' => e = .returned (.int .i64 (Lib.indexByte s.data.toList c)) ∧ w' = w := Any.strings_Index_one Tryd.lays143 s c w
open Go.RowKit Go.Lib in
/-- strings.Index: "Index returns the index of the first instance of substr in s, or -1 if substr is not present in s.": IT RETURNS 'Lib.index s substr'; the world is as it was. (LAID: no walk: one application.) -/
theorem Tryd.strings_Index (s sub : ByteArray) (m : Int) (w : World) (hs : s.size < 4294967281) (hm : w.cell? ⟨0, 0, none⟩ = some (.int .i64 m)) :
    Calls Tryd.prog 146 #[.string s, .string sub] w fun e w' => e = .returned (.int .i64 (Lib.index s.data.toList sub.data.toList)) ∧ w' = w := Any.strings_Index Tryd.lays143 s sub m w hs hm
def Tryd.lays220_ren : Go.Shelf.Ren := ⟨fun | 220 => 142 | 219 => 150 | 217 => 155 | 225 => 156 | 224 => 157 | 267 => 158 | 266 => 160 | 314 => 161 | n => n, fun | 9 => 9 | 4 => 4 | 3 => 3 | 5 => 5 | 46 => 124 | 146 => 164 | 51 => 127 | n => n, fun | 1 => 0 | n => n⟩
theorem Tryd.lays220 : Go.Proofs.Lays.n220 Tryd.prog Tryd.lays220_ren := {
  mixed := by kernel_rfl
  f217 := Tryd.func155.trans (congrArg some (by kernel_rfl))
  f219 := Tryd.func150.trans (congrArg some (by kernel_rfl))
  f220 := Tryd.func142.trans (congrArg some (by kernel_rfl))
  f224 := Tryd.func157.trans (congrArg some (by kernel_rfl))
  f225 := Tryd.func156.trans (congrArg some (by kernel_rfl))
  f266 := Tryd.func160.trans (congrArg some (by kernel_rfl))
  f267 := Tryd.func158.trans (congrArg some (by kernel_rfl))
  f314 := Tryd.func161.trans (congrArg some (by kernel_rfl))
  t3 := Tryd.underlying3
  a3 := Tryd.isAgg3
  z3 := Tryd.sizeOf3
  v3 := Tryd.zeroValue3
  t4 := Tryd.underlying4
  a4 := Tryd.isAgg4
  z4 := Tryd.sizeOf4
  v4 := Tryd.zeroValue4
  t5 := Tryd.underlying5
  a5 := Tryd.isAgg5
  z5 := Tryd.sizeOf5
  v5 := Tryd.zeroValue5
  t9 := Tryd.underlying9
  a9 := Tryd.isAgg9
  z9 := Tryd.sizeOf9
  v9 := Tryd.zeroValue9
  t46 := Tryd.underlying124
  a46 := Tryd.isAgg124
  z46 := Tryd.sizeOf124
  v46 := Tryd.zeroValue124
  t51 := Tryd.underlying127
  a51 := Tryd.isAgg127
  z51 := Tryd.sizeOf127
  v51 := Tryd.zeroValue127
  t146 := Tryd.underlying164
  a146 := Tryd.isAgg164
  z146 := Tryd.sizeOf164
  v146 := Tryd.zeroValue164
  g1 := by kernel_rfl }
open Go.RowKit Go.Lib in
/-- internal/stringslite.Cut (what strings.Cut calls): IT RETURNS 'Lib.cut s sep'; the world is as it was but for the count of draws. (LAID: no walk: one application.) -/
theorem Tryd.stringslite_Cut (s sep : ByteArray) (m : Int) (w : World) (hs : s.size < 4294967281) (hm : w.cell? ⟨0, 0, none⟩ = some (.int .i64 m)) :
    Calls Tryd.prog 142 #[.string s, .string sep] w fun e w' => e = .returned (.tuple #[.string ⟨(Lib.cut s.data.toList sep.data.toList).1.toArray⟩, .string ⟨(Lib.cut s.data.toList sep.data.toList).2.1.toArray⟩, .bool (Lib.cut s.data.toList sep.data.toList).2.2]) ∧ ∃ n, w' = w.drewN n := Any.stringslite_Cut Tryd.lays220 s sep m w hs hm
def Tryd.lays145_ren : Go.Shelf.Ren := ⟨fun | 145 => 129 | 220 => 142 | 219 => 150 | 217 => 155 | 225 => 156 | 224 => 157 | 267 => 158 | 266 => 160 | 314 => 161 | n => n, fun | 9 => 9 | 4 => 4 | 59 => 108 | 3 => 3 | 5 => 5 | 46 => 124 | 146 => 164 | 51 => 127 | n => n, fun | 1 => 0 | n => n⟩
theorem Tryd.lays145 : Go.Proofs.Lays.n145 Tryd.prog Tryd.lays145_ren := {
  mixed := by kernel_rfl
  f145 := Tryd.func129.trans (congrArg some (by kernel_rfl))
  f217 := Tryd.func155.trans (congrArg some (by kernel_rfl))
  f219 := Tryd.func150.trans (congrArg some (by kernel_rfl))
  f220 := Tryd.func142.trans (congrArg some (by kernel_rfl))
  f224 := Tryd.func157.trans (congrArg some (by kernel_rfl))
  f225 := Tryd.func156.trans (congrArg some (by kernel_rfl))
  f266 := Tryd.func160.trans (congrArg some (by kernel_rfl))
  f267 := Tryd.func158.trans (congrArg some (by kernel_rfl))
  f314 := Tryd.func161.trans (congrArg some (by kernel_rfl))
  t3 := Tryd.underlying3
  a3 := Tryd.isAgg3
  z3 := Tryd.sizeOf3
  v3 := Tryd.zeroValue3
  t4 := Tryd.underlying4
  a4 := Tryd.isAgg4
  z4 := Tryd.sizeOf4
  v4 := Tryd.zeroValue4
  t5 := Tryd.underlying5
  a5 := Tryd.isAgg5
  z5 := Tryd.sizeOf5
  v5 := Tryd.zeroValue5
  t9 := Tryd.underlying9
  a9 := Tryd.isAgg9
  z9 := Tryd.sizeOf9
  v9 := Tryd.zeroValue9
  t46 := Tryd.underlying124
  a46 := Tryd.isAgg124
  z46 := Tryd.sizeOf124
  v46 := Tryd.zeroValue124
  t51 := Tryd.underlying127
  a51 := Tryd.isAgg127
  z51 := Tryd.sizeOf127
  v51 := Tryd.zeroValue127
  t59 := Tryd.underlying108
  a59 := Tryd.isAgg108
  z59 := Tryd.sizeOf108
  v59 := Tryd.zeroValue108
  t146 := Tryd.underlying164
  a146 := Tryd.isAgg164
  z146 := Tryd.sizeOf164
  v146 := Tryd.zeroValue164
  g1 := by kernel_rfl }
open Go.RowKit Go.Lib in
/-- strings.Cut: "Cut slices s around the first instance of sep, returning the text before and after sep. The found result reports whether sep appears in s. If sep does not appear in s, cut returns s, "", false.": IT RETURNS 'Lib.cut s sep'; the world is as it was but for the count of draws. (LAID: no walk: one application.) -/
theorem Tryd.strings_Cut (s sep : ByteArray) (m : Int) (w : World) (hs : s.size < 4294967281) (hm : w.cell? ⟨0, 0, none⟩ = some (.int .i64 m)) :
    Calls Tryd.prog 129 #[.string s, .string sep] w fun e w' => e = .returned (.tuple #[.string ⟨(Lib.cut s.data.toList sep.data.toList).1.toArray⟩, .string ⟨(Lib.cut s.data.toList sep.data.toList).2.1.toArray⟩, .bool (Lib.cut s.data.toList sep.data.toList).2.2]) ∧ ∃ n, w' = w.drewN n := Any.strings_Cut Tryd.lays145 s sep m w hs hm
def Tryd.lays138_ren : Go.Shelf.Ren := ⟨fun | 138 => 145 | 195 => 151 | 218 => 153 | 143 => 146 | 219 => 150 | 217 => 155 | 225 => 156 | 224 => 157 | 267 => 158 | 266 => 160 | 314 => 161 | n => n, fun | 9 => 9 | 3 => 3 | 4 => 4 | 5 => 5 | 0 => 0 | 46 => 124 | 146 => 164 | 51 => 127 | n => n, fun | 1 => 0 | n => n⟩
theorem Tryd.lays138 : Go.Proofs.Lays.n138 Tryd.prog Tryd.lays138_ren := {
  mixed := by kernel_rfl
  f138 := Tryd.func145.trans (congrArg some (by kernel_rfl))
  f143 := Tryd.func146.trans (congrArg some (by kernel_rfl))
  f195 := Tryd.func151.trans (congrArg some (by kernel_rfl))
  f217 := Tryd.func155.trans (congrArg some (by kernel_rfl))
  f218 := Tryd.func153.trans (congrArg some (by kernel_rfl))
  f219 := Tryd.func150.trans (congrArg some (by kernel_rfl))
  f224 := Tryd.func157.trans (congrArg some (by kernel_rfl))
  f225 := Tryd.func156.trans (congrArg some (by kernel_rfl))
  f266 := Tryd.func160.trans (congrArg some (by kernel_rfl))
  f267 := Tryd.func158.trans (congrArg some (by kernel_rfl))
  f314 := Tryd.func161.trans (congrArg some (by kernel_rfl))
  t0 := Tryd.underlying0
  a0 := Tryd.isAgg0
  z0 := Tryd.sizeOf0
  v0 := Tryd.zeroValue0
  t3 := Tryd.underlying3
  a3 := Tryd.isAgg3
  z3 := Tryd.sizeOf3
  v3 := Tryd.zeroValue3
  t4 := Tryd.underlying4
  a4 := Tryd.isAgg4
  z4 := Tryd.sizeOf4
  v4 := Tryd.zeroValue4
  t5 := Tryd.underlying5
  a5 := Tryd.isAgg5
  z5 := Tryd.sizeOf5
  v5 := Tryd.zeroValue5
  t9 := Tryd.underlying9
  a9 := Tryd.isAgg9
  z9 := Tryd.sizeOf9
  v9 := Tryd.zeroValue9
  t46 := Tryd.underlying124
  a46 := Tryd.isAgg124
  z46 := Tryd.sizeOf124
  v46 := Tryd.zeroValue124
  t51 := Tryd.underlying127
  a51 := Tryd.isAgg127
  z51 := Tryd.sizeOf127
  v51 := Tryd.zeroValue127
  t146 := Tryd.underlying164
  a146 := Tryd.isAgg164
  z146 := Tryd.sizeOf164
  v146 := Tryd.zeroValue164
  g1 := by kernel_rfl }
open Go.RowKit Go.Lib in
/-- strings.Count AT A substr OF ONE BYTE ('hp'): "Count counts the number of non-overlapping instances of substr in s.": IT RETURNS 'Lib.countByte s (that byte)'; the world is as it was. ✋ NO CONTRACT HERE YET at an empty substr (utf8.RuneCountInString) or at a longer one (a loop over strings.Index). (LAID: no walk: one application.) -/
theorem Tryd.strings_Count_one (s : ByteArray) (c : UInt8) (w : World) :
    Calls Tryd.prog 145 #[.string s, .string ⟨#[c]⟩] w fun e w' => e = .returned (.int .i64 (Lib.countByte s.data.toList c)) ∧ w' = w := Any.strings_Count_one Tryd.lays138 s c w
open Go.RowKit Go.Lib in
/-- strings.Count AT A substr OF TWO BYTES OR MORE: "Count counts the number of non-overlapping instances of substr in s.": IT RETURNS 'Lib.count s substr'; the world is as it was. (LAID: no walk: one application.) -/
theorem Tryd.strings_Count (s sub : ByteArray) (m : Int) (w : World) (hs : s.size < 4294967281) (hm : w.cell? ⟨0, 0, none⟩ = some (.int .i64 m)) (h2 : 2 ≤ sub.size) :
    Calls Tryd.prog 145 #[.string s, .string sub] w fun e w' => e = .returned (.int .i64 (Lib.countB s sub)) ∧ w' = w := Any.strings_Count Tryd.lays138 s sub m w hs hm h2
def Tryd.laysM219_ren : Go.Shelf.Ren := ⟨fun | 219 => 150 | 217 => 155 | 225 => 156 | 224 => 157 | 267 => 158 | 266 => 160 | 314 => 161 | n => n, fun | 9 => 9 | 3 => 3 | 4 => 4 | 5 => 5 | 46 => 124 | 146 => 164 | 51 => 127 | n => n, fun | 1 => 0 | n => n⟩
theorem Tryd.laysM219 : Go.Proofs.LaysM.n219 Tryd.prog Tryd.laysM219_ren := {
  mixed := by kernel_rfl
  f217 := Tryd.func155.trans (congrArg some (by kernel_rfl))
  f219 := Tryd.func150.trans (congrArg some (by kernel_rfl))
  f224 := Tryd.func157.trans (congrArg some (by kernel_rfl))
  f225 := Tryd.func156.trans (congrArg some (by kernel_rfl))
  f266 := Tryd.func160.trans (congrArg some (by kernel_rfl))
  f267 := Tryd.func158.trans (congrArg some (by kernel_rfl))
  f314 := Tryd.func161.trans (congrArg some (by kernel_rfl))
  t3 := Tryd.underlying3
  a3 := Tryd.isAgg3
  z3 := Tryd.sizeOf3
  v3 := Tryd.zeroValue3
  t4 := Tryd.underlying4
  a4 := Tryd.isAgg4
  z4 := Tryd.sizeOf4
  v4 := Tryd.zeroValue4
  t5 := Tryd.underlying5
  a5 := Tryd.isAgg5
  z5 := Tryd.sizeOf5
  v5 := Tryd.zeroValue5
  t9 := Tryd.underlying9
  a9 := Tryd.isAgg9
  z9 := Tryd.sizeOf9
  v9 := Tryd.zeroValue9
  t46 := Tryd.underlying124
  a46 := Tryd.isAgg124
  z46 := Tryd.sizeOf124
  v46 := Tryd.zeroValue124
  t51 := Tryd.underlying127
  a51 := Tryd.isAgg127
  z51 := Tryd.sizeOf127
  v51 := Tryd.zeroValue127
  t146 := Tryd.underlying164
  a146 := Tryd.isAgg164
  z146 := Tryd.sizeOf164
  v146 := Tryd.zeroValue164
  g1 := by kernel_rfl
  i3 := by kernel_rfl
  i4 := by kernel_rfl
  i5 := by kernel_rfl
  i9 := by kernel_rfl
  i46 := by kernel_rfl
  i51 := by kernel_rfl
  i146 := by kernel_rfl
  m1 := by kernel_rfl
  s1_3 := fun w h => Go.Proofs.cell_of_shapedOpen_int (zero := #[.int .i64 0]) (t := 3) h (of_decide_eq_true (by kernel_rfl)) (by kernel_rfl) rfl (by kernel_rfl) (by kernel_rfl) Tryd.underlying3 }
open Go.RowKit Go.Lib in
theorem Tryd.stringslite_Index_shaped (s sub : ByteArray) (w : World) (h : w.ShapedOpen Tryd.prog) (hs : s.size < 4294967281) :
    Calls Tryd.prog 150 #[.string s, .string sub] w fun e w' => e = .returned (.int .i64 (Lib.index s.data.toList sub.data.toList)) ∧ w' = w := Any.stringslite_Index_shaped Tryd.laysM219 s sub w h hs
def Tryd.laysM143_ren : Go.Shelf.Ren := ⟨fun | 143 => 146 | 219 => 150 | 217 => 155 | 225 => 156 | 224 => 157 | 267 => 158 | 266 => 160 | 314 => 161 | n => n, fun | 9 => 9 | 3 => 3 | 4 => 4 | 5 => 5 | 46 => 124 | 146 => 164 | 51 => 127 | n => n, fun | 1 => 0 | n => n⟩
theorem Tryd.laysM143 : Go.Proofs.LaysM.n143 Tryd.prog Tryd.laysM143_ren := {
  mixed := by kernel_rfl
  f143 := Tryd.func146.trans (congrArg some (by kernel_rfl))
  f217 := Tryd.func155.trans (congrArg some (by kernel_rfl))
  f219 := Tryd.func150.trans (congrArg some (by kernel_rfl))
  f224 := Tryd.func157.trans (congrArg some (by kernel_rfl))
  f225 := Tryd.func156.trans (congrArg some (by kernel_rfl))
  f266 := Tryd.func160.trans (congrArg some (by kernel_rfl))
  f267 := Tryd.func158.trans (congrArg some (by kernel_rfl))
  f314 := Tryd.func161.trans (congrArg some (by kernel_rfl))
  t3 := Tryd.underlying3
  a3 := Tryd.isAgg3
  z3 := Tryd.sizeOf3
  v3 := Tryd.zeroValue3
  t4 := Tryd.underlying4
  a4 := Tryd.isAgg4
  z4 := Tryd.sizeOf4
  v4 := Tryd.zeroValue4
  t5 := Tryd.underlying5
  a5 := Tryd.isAgg5
  z5 := Tryd.sizeOf5
  v5 := Tryd.zeroValue5
  t9 := Tryd.underlying9
  a9 := Tryd.isAgg9
  z9 := Tryd.sizeOf9
  v9 := Tryd.zeroValue9
  t46 := Tryd.underlying124
  a46 := Tryd.isAgg124
  z46 := Tryd.sizeOf124
  v46 := Tryd.zeroValue124
  t51 := Tryd.underlying127
  a51 := Tryd.isAgg127
  z51 := Tryd.sizeOf127
  v51 := Tryd.zeroValue127
  t146 := Tryd.underlying164
  a146 := Tryd.isAgg164
  z146 := Tryd.sizeOf164
  v146 := Tryd.zeroValue164
  g1 := by kernel_rfl
  i3 := by kernel_rfl
  i4 := by kernel_rfl
  i5 := by kernel_rfl
  i9 := by kernel_rfl
  i46 := by kernel_rfl
  i51 := by kernel_rfl
  i146 := by kernel_rfl
  m1 := by kernel_rfl
  s1_3 := fun w h => Go.Proofs.cell_of_shapedOpen_int (zero := #[.int .i64 0]) (t := 3) h (of_decide_eq_true (by kernel_rfl)) (by kernel_rfl) rfl (by kernel_rfl) (by kernel_rfl) Tryd.underlying3 }
open Go.RowKit Go.Lib in
theorem Tryd.strings_Index_shaped (s sub : ByteArray) (w : World) (h : w.ShapedOpen Tryd.prog) (hs : s.size < 4294967281) :
    Calls Tryd.prog 146 #[.string s, .string sub] w fun e w' => e = .returned (.int .i64 (Lib.index s.data.toList sub.data.toList)) ∧ w' = w := Any.strings_Index_shaped Tryd.laysM143 s sub w h hs
def Tryd.laysM220_ren : Go.Shelf.Ren := ⟨fun | 220 => 142 | 219 => 150 | 217 => 155 | 225 => 156 | 224 => 157 | 267 => 158 | 266 => 160 | 314 => 161 | n => n, fun | 9 => 9 | 4 => 4 | 3 => 3 | 5 => 5 | 46 => 124 | 146 => 164 | 51 => 127 | n => n, fun | 1 => 0 | n => n⟩
theorem Tryd.laysM220 : Go.Proofs.LaysM.n220 Tryd.prog Tryd.laysM220_ren := {
  mixed := by kernel_rfl
  f217 := Tryd.func155.trans (congrArg some (by kernel_rfl))
  f219 := Tryd.func150.trans (congrArg some (by kernel_rfl))
  f220 := Tryd.func142.trans (congrArg some (by kernel_rfl))
  f224 := Tryd.func157.trans (congrArg some (by kernel_rfl))
  f225 := Tryd.func156.trans (congrArg some (by kernel_rfl))
  f266 := Tryd.func160.trans (congrArg some (by kernel_rfl))
  f267 := Tryd.func158.trans (congrArg some (by kernel_rfl))
  f314 := Tryd.func161.trans (congrArg some (by kernel_rfl))
  t3 := Tryd.underlying3
  a3 := Tryd.isAgg3
  z3 := Tryd.sizeOf3
  v3 := Tryd.zeroValue3
  t4 := Tryd.underlying4
  a4 := Tryd.isAgg4
  z4 := Tryd.sizeOf4
  v4 := Tryd.zeroValue4
  t5 := Tryd.underlying5
  a5 := Tryd.isAgg5
  z5 := Tryd.sizeOf5
  v5 := Tryd.zeroValue5
  t9 := Tryd.underlying9
  a9 := Tryd.isAgg9
  z9 := Tryd.sizeOf9
  v9 := Tryd.zeroValue9
  t46 := Tryd.underlying124
  a46 := Tryd.isAgg124
  z46 := Tryd.sizeOf124
  v46 := Tryd.zeroValue124
  t51 := Tryd.underlying127
  a51 := Tryd.isAgg127
  z51 := Tryd.sizeOf127
  v51 := Tryd.zeroValue127
  t146 := Tryd.underlying164
  a146 := Tryd.isAgg164
  z146 := Tryd.sizeOf164
  v146 := Tryd.zeroValue164
  g1 := by kernel_rfl
  i3 := by kernel_rfl
  i4 := by kernel_rfl
  i5 := by kernel_rfl
  i9 := by kernel_rfl
  i46 := by kernel_rfl
  i51 := by kernel_rfl
  i146 := by kernel_rfl
  m1 := by kernel_rfl
  s1_3 := fun w h => Go.Proofs.cell_of_shapedOpen_int (zero := #[.int .i64 0]) (t := 3) h (of_decide_eq_true (by kernel_rfl)) (by kernel_rfl) rfl (by kernel_rfl) (by kernel_rfl) Tryd.underlying3 }
open Go.RowKit Go.Lib in
theorem Tryd.stringslite_Cut_shaped (s sep : ByteArray) (w : World) (h : w.ShapedOpen Tryd.prog) (hs : s.size < 4294967281) :
    Calls Tryd.prog 142 #[.string s, .string sep] w fun e w' => e = .returned (.tuple #[.string ⟨(Lib.cut s.data.toList sep.data.toList).1.toArray⟩, .string ⟨(Lib.cut s.data.toList sep.data.toList).2.1.toArray⟩, .bool (Lib.cut s.data.toList sep.data.toList).2.2]) ∧ ∃ n, w' = w.drewN n := Any.stringslite_Cut_shaped Tryd.laysM220 s sep w h hs
def Tryd.laysM145_ren : Go.Shelf.Ren := ⟨fun | 145 => 129 | 220 => 142 | 219 => 150 | 217 => 155 | 225 => 156 | 224 => 157 | 267 => 158 | 266 => 160 | 314 => 161 | n => n, fun | 9 => 9 | 4 => 4 | 59 => 108 | 3 => 3 | 5 => 5 | 46 => 124 | 146 => 164 | 51 => 127 | n => n, fun | 1 => 0 | n => n⟩
theorem Tryd.laysM145 : Go.Proofs.LaysM.n145 Tryd.prog Tryd.laysM145_ren := {
  mixed := by kernel_rfl
  f145 := Tryd.func129.trans (congrArg some (by kernel_rfl))
  f217 := Tryd.func155.trans (congrArg some (by kernel_rfl))
  f219 := Tryd.func150.trans (congrArg some (by kernel_rfl))
  f220 := Tryd.func142.trans (congrArg some (by kernel_rfl))
  f224 := Tryd.func157.trans (congrArg some (by kernel_rfl))
  f225 := Tryd.func156.trans (congrArg some (by kernel_rfl))
  f266 := Tryd.func160.trans (congrArg some (by kernel_rfl))
  f267 := Tryd.func158.trans (congrArg some (by kernel_rfl))
  f314 := Tryd.func161.trans (congrArg some (by kernel_rfl))
  t3 := Tryd.underlying3
  a3 := Tryd.isAgg3
  z3 := Tryd.sizeOf3
  v3 := Tryd.zeroValue3
  t4 := Tryd.underlying4
  a4 := Tryd.isAgg4
  z4 := Tryd.sizeOf4
  v4 := Tryd.zeroValue4
  t5 := Tryd.underlying5
  a5 := Tryd.isAgg5
  z5 := Tryd.sizeOf5
  v5 := Tryd.zeroValue5
  t9 := Tryd.underlying9
  a9 := Tryd.isAgg9
  z9 := Tryd.sizeOf9
  v9 := Tryd.zeroValue9
  t46 := Tryd.underlying124
  a46 := Tryd.isAgg124
  z46 := Tryd.sizeOf124
  v46 := Tryd.zeroValue124
  t51 := Tryd.underlying127
  a51 := Tryd.isAgg127
  z51 := Tryd.sizeOf127
  v51 := Tryd.zeroValue127
  t59 := Tryd.underlying108
  a59 := Tryd.isAgg108
  z59 := Tryd.sizeOf108
  v59 := Tryd.zeroValue108
  t146 := Tryd.underlying164
  a146 := Tryd.isAgg164
  z146 := Tryd.sizeOf164
  v146 := Tryd.zeroValue164
  g1 := by kernel_rfl
  i3 := by kernel_rfl
  i4 := by kernel_rfl
  i5 := by kernel_rfl
  i9 := by kernel_rfl
  i46 := by kernel_rfl
  i51 := by kernel_rfl
  i59 := by kernel_rfl
  i146 := by kernel_rfl
  m1 := by kernel_rfl
  s1_3 := fun w h => Go.Proofs.cell_of_shapedOpen_int (zero := #[.int .i64 0]) (t := 3) h (of_decide_eq_true (by kernel_rfl)) (by kernel_rfl) rfl (by kernel_rfl) (by kernel_rfl) Tryd.underlying3 }
open Go.RowKit Go.Lib in
theorem Tryd.strings_Cut_shaped (s sep : ByteArray) (w : World) (h : w.ShapedOpen Tryd.prog) (hs : s.size < 4294967281) :
    Calls Tryd.prog 129 #[.string s, .string sep] w fun e w' => e = .returned (.tuple #[.string ⟨(Lib.cut s.data.toList sep.data.toList).1.toArray⟩, .string ⟨(Lib.cut s.data.toList sep.data.toList).2.1.toArray⟩, .bool (Lib.cut s.data.toList sep.data.toList).2.2]) ∧ ∃ n, w' = w.drewN n := Any.strings_Cut_shaped Tryd.laysM145 s sep w h hs
def Tryd.laysM138_ren : Go.Shelf.Ren := ⟨fun | 138 => 145 | 195 => 151 | 218 => 153 | 143 => 146 | 219 => 150 | 217 => 155 | 225 => 156 | 224 => 157 | 267 => 158 | 266 => 160 | 314 => 161 | n => n, fun | 9 => 9 | 3 => 3 | 4 => 4 | 5 => 5 | 0 => 0 | 46 => 124 | 146 => 164 | 51 => 127 | n => n, fun | 1 => 0 | n => n⟩
theorem Tryd.laysM138 : Go.Proofs.LaysM.n138 Tryd.prog Tryd.laysM138_ren := {
  mixed := by kernel_rfl
  f138 := Tryd.func145.trans (congrArg some (by kernel_rfl))
  f143 := Tryd.func146.trans (congrArg some (by kernel_rfl))
  f195 := Tryd.func151.trans (congrArg some (by kernel_rfl))
  f217 := Tryd.func155.trans (congrArg some (by kernel_rfl))
  f218 := Tryd.func153.trans (congrArg some (by kernel_rfl))
  f219 := Tryd.func150.trans (congrArg some (by kernel_rfl))
  f224 := Tryd.func157.trans (congrArg some (by kernel_rfl))
  f225 := Tryd.func156.trans (congrArg some (by kernel_rfl))
  f266 := Tryd.func160.trans (congrArg some (by kernel_rfl))
  f267 := Tryd.func158.trans (congrArg some (by kernel_rfl))
  f314 := Tryd.func161.trans (congrArg some (by kernel_rfl))
  t0 := Tryd.underlying0
  a0 := Tryd.isAgg0
  z0 := Tryd.sizeOf0
  v0 := Tryd.zeroValue0
  t3 := Tryd.underlying3
  a3 := Tryd.isAgg3
  z3 := Tryd.sizeOf3
  v3 := Tryd.zeroValue3
  t4 := Tryd.underlying4
  a4 := Tryd.isAgg4
  z4 := Tryd.sizeOf4
  v4 := Tryd.zeroValue4
  t5 := Tryd.underlying5
  a5 := Tryd.isAgg5
  z5 := Tryd.sizeOf5
  v5 := Tryd.zeroValue5
  t9 := Tryd.underlying9
  a9 := Tryd.isAgg9
  z9 := Tryd.sizeOf9
  v9 := Tryd.zeroValue9
  t46 := Tryd.underlying124
  a46 := Tryd.isAgg124
  z46 := Tryd.sizeOf124
  v46 := Tryd.zeroValue124
  t51 := Tryd.underlying127
  a51 := Tryd.isAgg127
  z51 := Tryd.sizeOf127
  v51 := Tryd.zeroValue127
  t146 := Tryd.underlying164
  a146 := Tryd.isAgg164
  z146 := Tryd.sizeOf164
  v146 := Tryd.zeroValue164
  g1 := by kernel_rfl
  i0 := by kernel_rfl
  i3 := by kernel_rfl
  i4 := by kernel_rfl
  i5 := by kernel_rfl
  i9 := by kernel_rfl
  i46 := by kernel_rfl
  i51 := by kernel_rfl
  i146 := by kernel_rfl
  m1 := by kernel_rfl
  s1_3 := fun w h => Go.Proofs.cell_of_shapedOpen_int (zero := #[.int .i64 0]) (t := 3) h (of_decide_eq_true (by kernel_rfl)) (by kernel_rfl) rfl (by kernel_rfl) (by kernel_rfl) Tryd.underlying3 }
open Go.RowKit Go.Lib in
theorem Tryd.strings_Count_shaped (s sub : ByteArray) (w : World) (h : w.ShapedOpen Tryd.prog) (hs : s.size < 4294967281) (h2 : 2 ≤ sub.size) :
    Calls Tryd.prog 145 #[.string s, .string sub] w fun e w' => e = .returned (.int .i64 (Lib.countB s sub)) ∧ w' = w := Any.strings_Count_shaped Tryd.laysM138 s sub w h hs h2
def Tryd.lays222_ren : Go.Shelf.Ren := ⟨fun | 222 => 141 | n => n, fun | 9 => 9 | 5 => 5 | 3 => 3 | 4 => 4 | n => n, fun | n => n⟩
theorem Tryd.lays222 : Go.Proofs.Lays.n222 Tryd.prog Tryd.lays222_ren := {
  mixed := by kernel_rfl
  f222 := Tryd.func141.trans (congrArg some (by kernel_rfl))
  t3 := Tryd.underlying3
  a3 := Tryd.isAgg3
  z3 := Tryd.sizeOf3
  v3 := Tryd.zeroValue3
  t4 := Tryd.underlying4
  a4 := Tryd.isAgg4
  z4 := Tryd.sizeOf4
  v4 := Tryd.zeroValue4
  t5 := Tryd.underlying5
  a5 := Tryd.isAgg5
  z5 := Tryd.sizeOf5
  v5 := Tryd.zeroValue5
  t9 := Tryd.underlying9
  a9 := Tryd.isAgg9
  z9 := Tryd.sizeOf9
  v9 := Tryd.zeroValue9 }
open Go.RowKit Go.Lib in
/-- internal/bytealg.LastIndexByteString: 'for i := len(s) - 1; i >= 0; i-- { if s[i] == c { return i } }; return -1'. (LAID: no walk: one application.) -/
theorem Tryd.bytealg_LastIndexByteString_nm (s : ByteArray) (c : Int) (hs : s.size < 4611686018427387904) (w : World) :
    Calls Tryd.prog 141 #[.string s, .int .u8 c] w fun e w' => e = .returned (.int .i64 (Lib.lastIndexByte s c)) ∧ w' = w := Any.bytealg_LastIndexByteString_nm Tryd.lays222 s c hs w
def Tryd.lays149_ren : Go.Shelf.Ren := ⟨fun | 149 => 123 | 222 => 141 | n => n, fun | 9 => 9 | 5 => 5 | 3 => 3 | 4 => 4 | n => n, fun | n => n⟩
theorem Tryd.lays149 : Go.Proofs.Lays.n149 Tryd.prog Tryd.lays149_ren := {
  mixed := by kernel_rfl
  f149 := Tryd.func123.trans (congrArg some (by kernel_rfl))
  f222 := Tryd.func141.trans (congrArg some (by kernel_rfl))
  t3 := Tryd.underlying3
  a3 := Tryd.isAgg3
  z3 := Tryd.sizeOf3
  v3 := Tryd.zeroValue3
  t4 := Tryd.underlying4
  a4 := Tryd.isAgg4
  z4 := Tryd.sizeOf4
  v4 := Tryd.zeroValue4
  t5 := Tryd.underlying5
  a5 := Tryd.isAgg5
  z5 := Tryd.sizeOf5
  v5 := Tryd.zeroValue5
  t9 := Tryd.underlying9
  a9 := Tryd.isAgg9
  z9 := Tryd.sizeOf9
  v9 := Tryd.zeroValue9 }
open Go.RowKit Go.Lib in
/-- strings.LastIndexByte: "LastIndexByte returns the index of the last instance of c in s, or -1 if c is not present in s." (LAID: no walk: one application.) -/
theorem Tryd.strings_LastIndexByte (s : ByteArray) (c : Int) (hs : s.size < 4611686018427387904) (w : World) :
    Calls Tryd.prog 123 #[.string s, .int .u8 c] w fun e w' => e = .returned (.int .i64 (Lib.lastIndexByte s c)) ∧ w' = w := Any.strings_LastIndexByte Tryd.lays149 s c hs w
def Tryd.lays315_ren : Go.Shelf.Ren := ⟨fun | 315 => 143 | n => n, fun | 9 => 9 | 40 => 146 | 4 => 4 | 3 => 3 | 0 => 0 | 21 => 21 | n => n, fun | n => n⟩
theorem Tryd.lays315 : Go.Proofs.Lays.n315 Tryd.prog Tryd.lays315_ren := {
  mixed := by kernel_rfl
  f315 := Tryd.func143.trans (congrArg some (by kernel_rfl))
  t0 := Tryd.underlying0
  a0 := Tryd.isAgg0
  z0 := Tryd.sizeOf0
  v0 := Tryd.zeroValue0
  t3 := Tryd.underlying3
  a3 := Tryd.isAgg3
  z3 := Tryd.sizeOf3
  v3 := Tryd.zeroValue3
  t4 := Tryd.underlying4
  a4 := Tryd.isAgg4
  z4 := Tryd.sizeOf4
  v4 := Tryd.zeroValue4
  t9 := Tryd.underlying9
  a9 := Tryd.isAgg9
  z9 := Tryd.sizeOf9
  v9 := Tryd.zeroValue9
  t21 := Tryd.underlying21
  a21 := Tryd.isAgg21
  z21 := Tryd.sizeOf21
  v21 := Tryd.zeroValue21
  t40 := Tryd.underlying146
  a40 := Tryd.isAgg146
  z40 := Tryd.sizeOf146
  v40 := Tryd.zeroValue146 }
open Go.RowKit Go.Lib in
theorem Tryd.strings_indexFunc (g : Nat) (lb : Array Value) (eg : ∀ args w, (callFunc g args).run Tryd.prog w = .ok (.enter g args) w) (p : Nat → Bool) (truth : Bool) (s : ByteArray) (w : World) (hp : PredAt Tryd.prog g lb encR p w) :
    Calls Tryd.prog 143 #[.string s, .func (.func g) #[] lb, .bool truth] w fun e w' => e = .returned (.int .i64 (Lib.idxFunc p truth s)) ∧ Below w.heap.size w w' := Any.strings_indexFunc Tryd.lays315 g lb eg p truth s w hp
def Tryd.laysGw15_ren : Go.Shelf.Ren := ⟨fun | 15 => 130 | 20 => 143 | n => n, fun | 9 => 9 | 23 => 146 | 3 => 3 | 4 => 4 | 0 => 0 | 21 => 21 | n => n, fun | n => n⟩
theorem Tryd.laysGw15 : Go.Proofs.LaysGw.n15 Tryd.prog Tryd.laysGw15_ren := {
  mixed := by kernel_rfl
  f15 := Tryd.func130.trans (congrArg some (by kernel_rfl))
  f20 := Tryd.func143.trans (congrArg some (by kernel_rfl))
  t0 := Tryd.underlying0
  a0 := Tryd.isAgg0
  z0 := Tryd.sizeOf0
  v0 := Tryd.zeroValue0
  i0 := by kernel_rfl
  t3 := Tryd.underlying3
  a3 := Tryd.isAgg3
  z3 := Tryd.sizeOf3
  v3 := Tryd.zeroValue3
  i3 := by kernel_rfl
  t4 := Tryd.underlying4
  a4 := Tryd.isAgg4
  z4 := Tryd.sizeOf4
  v4 := Tryd.zeroValue4
  i4 := by kernel_rfl
  t9 := Tryd.underlying9
  a9 := Tryd.isAgg9
  z9 := Tryd.sizeOf9
  v9 := Tryd.zeroValue9
  i9 := by kernel_rfl
  t21 := Tryd.underlying21
  a21 := Tryd.isAgg21
  z21 := Tryd.sizeOf21
  v21 := Tryd.zeroValue21
  i21 := by kernel_rfl
  t23 := Tryd.underlying146
  a23 := Tryd.isAgg146
  z23 := Tryd.sizeOf146
  v23 := Tryd.zeroValue146
  i23 := by kernel_rfl }
open Go.RowKit Go.Lib in
theorem Tryd.strings_IndexFunc (g : Nat) (lb : Array Value) (eg : ∀ args w, (callFunc g args).run Tryd.prog w = .ok (.enter g args) w) (p : Nat → Bool) (s : ByteArray) (w : World) (hp : PredAt Tryd.prog g lb encR p w) :
    Calls Tryd.prog 130 #[.string s, .func (.func g) #[] lb] w fun e w' => e = .returned (.int .i64 (Lib.idxFunc p true s)) ∧ Below w.heap.size w w' := Any.strings_IndexFunc Tryd.laysGw15 g lb eg p s w hp
open Go.RowKit Go.Lib in
theorem Tryd.strings_indexFunc_runes (g : Nat) (lb : Array Value) (eg : ∀ args w, (callFunc g args).run Tryd.prog w = .ok (.enter g args) w) (p : Nat → Bool) (truth : Bool) (s : ByteArray) (w : World) (hp : PredAtRunes Tryd.prog g lb p w) :
    Calls Tryd.prog 143 #[.string s, .func (.func g) #[] lb, .bool truth] w fun e w' => e = .returned (.int .i64 (Lib.idxFunc p truth s)) ∧ Below w.heap.size w w' := Any.strings_indexFunc_runes Tryd.lays315 g lb eg p truth s w hp
open Go.RowKit Go.Lib in
theorem Tryd.strings_IndexFunc_runes (g : Nat) (lb : Array Value) (eg : ∀ args w, (callFunc g args).run Tryd.prog w = .ok (.enter g args) w) (p : Nat → Bool) (s : ByteArray) (w : World) (hp : PredAtRunes Tryd.prog g lb p w) :
    Calls Tryd.prog 130 #[.string s, .func (.func g) #[] lb] w fun e w' => e = .returned (.int .i64 (Lib.idxFunc p true s)) ∧ Below w.heap.size w w' := Any.strings_IndexFunc_runes Tryd.laysGw15 g lb eg p s w hp
open Go.RowKit Go.Lib in
/-- strings.Count at whatever sep that is not empty: the two roads under one statement. (LAID: no walk: one application.) -/
theorem Tryd.strings_Count_any (s sep : ByteArray) (m : Int) (w : World) (hs : s.size < 4294967281) (hm : w.cell? ⟨0, 0, none⟩ = some (.int .i64 m)) (h1 : 1 ≤ sep.size) :
    Calls Tryd.prog 145 #[.string s, .string sep] w fun e w' => e = .returned (.int .i64 (Lib.countB s sep)) ∧ w' = w := Any.strings_Count_any Tryd.lays138 s sep m w hs hm h1
def Tryd.lays221_ren : Go.Shelf.Ren := ⟨fun | 221 => 132 | 268 => 144 | 138 => 145 | 143 => 146 | 195 => 151 | 197 => 152 | 218 => 153 | 219 => 150 | 260 => 159 | 217 => 155 | 225 => 156 | 224 => 157 | 267 => 158 | 266 => 160 | 314 => 161 | n => n, fun | 9 => 9 | 3 => 3 | 31 => 57 | 4 => 4 | 0 => 0 | 105 => 161 | 21 => 21 | 5 => 5 | 46 => 124 | 119 => 166 | 139 => 169 | 138 => 168 | 146 => 164 | 51 => 127 | n => n, fun | 1 => 0 | 3 => 2 | 4 => 3 | n => n⟩
theorem Tryd.lays221 : Go.Proofs.Lays.n221 Tryd.prog Tryd.lays221_ren := {
  mixed := by kernel_rfl
  f138 := Tryd.func145.trans (congrArg some (by kernel_rfl))
  f143 := Tryd.func146.trans (congrArg some (by kernel_rfl))
  f195 := Tryd.func151.trans (congrArg some (by kernel_rfl))
  f197 := Tryd.func152.trans (congrArg some (by kernel_rfl))
  f217 := Tryd.func155.trans (congrArg some (by kernel_rfl))
  f218 := Tryd.func153.trans (congrArg some (by kernel_rfl))
  f219 := Tryd.func150.trans (congrArg some (by kernel_rfl))
  f221 := Tryd.func132.trans (congrArg some (by kernel_rfl))
  f224 := Tryd.func157.trans (congrArg some (by kernel_rfl))
  f225 := Tryd.func156.trans (congrArg some (by kernel_rfl))
  f260 := Tryd.func159.trans (congrArg some (by kernel_rfl))
  f266 := Tryd.func160.trans (congrArg some (by kernel_rfl))
  f267 := Tryd.func158.trans (congrArg some (by kernel_rfl))
  f268 := Tryd.func144.trans (congrArg some (by kernel_rfl))
  f314 := Tryd.func161.trans (congrArg some (by kernel_rfl))
  t0 := Tryd.underlying0
  a0 := Tryd.isAgg0
  z0 := Tryd.sizeOf0
  v0 := Tryd.zeroValue0
  t3 := Tryd.underlying3
  a3 := Tryd.isAgg3
  z3 := Tryd.sizeOf3
  v3 := Tryd.zeroValue3
  t4 := Tryd.underlying4
  a4 := Tryd.isAgg4
  z4 := Tryd.sizeOf4
  v4 := Tryd.zeroValue4
  t5 := Tryd.underlying5
  a5 := Tryd.isAgg5
  z5 := Tryd.sizeOf5
  v5 := Tryd.zeroValue5
  t9 := Tryd.underlying9
  a9 := Tryd.isAgg9
  z9 := Tryd.sizeOf9
  v9 := Tryd.zeroValue9
  t21 := Tryd.underlying21
  a21 := Tryd.isAgg21
  z21 := Tryd.sizeOf21
  v21 := Tryd.zeroValue21
  t31 := Tryd.underlying57
  a31 := Tryd.isAgg57
  z31 := Tryd.sizeOf57
  v31 := Tryd.zeroValue57
  t46 := Tryd.underlying124
  a46 := Tryd.isAgg124
  z46 := Tryd.sizeOf124
  v46 := Tryd.zeroValue124
  t51 := Tryd.underlying127
  a51 := Tryd.isAgg127
  z51 := Tryd.sizeOf127
  v51 := Tryd.zeroValue127
  t105 := Tryd.underlying161
  a105 := Tryd.isAgg161
  z105 := Tryd.sizeOf161
  v105 := Tryd.zeroValue161
  t119 := Tryd.underlying166
  a119 := Tryd.isAgg166
  z119 := Tryd.sizeOf166
  t138 := Tryd.underlying168
  a138 := Tryd.isAgg168
  z138 := Tryd.sizeOf168
  v138 := Tryd.zeroValue168
  t139 := Tryd.underlying169
  a139 := Tryd.isAgg169
  z139 := Tryd.sizeOf169
  v139 := Tryd.zeroValue169
  t146 := Tryd.underlying164
  a146 := Tryd.isAgg164
  z146 := Tryd.sizeOf164
  v146 := Tryd.zeroValue164
  g1 := by kernel_rfl
  g3 := by kernel_rfl
  g4 := by kernel_rfl }
open Go.RowKit Go.Lib in
theorem Tryd.strings_genSplit (s sep : ByteArray) (sv : Nat) (n : Int) (N : Nat) (m : Int) (w : World) (hs : s.size < 4294967281) (hm : w.cell? ⟨0, 0, none⟩ = some (.int .i64 m)) (h1 : 1 ≤ sep.size) (hsv : sv ≤ sep.size) (hn0 : n ≠ 0) (hn63 : n ≤ 9223372036854775807) (hN : (N : Int) = min (if n < 0 then (Lib.countB s sep : Int) + 1 else n) ((s.size : Int) + 1)) :
    Calls Tryd.prog 132 #[.string s, .string sep, .int .i64 sv, .int .i64 n] w fun e w' =>
      e = .returned (.slice (some ⟨w.heap.size, 0, none⟩) (Lib.splitB sep sv (N - 1) s).length N) ∧ w' = w.alloc (.cells (Lib.cellsOf (Lib.splitB sep sv (N - 1) s) N) 9) := Any.strings_genSplit Tryd.lays221 (by kernel_rfl) s sep sv n N m w hs hm h1 hsv hn0 hn63 hN
def Tryd.lays146_ren : Go.Shelf.Ren := ⟨fun | 146 => 103 | 221 => 132 | 268 => 144 | 138 => 145 | 143 => 146 | 195 => 151 | 197 => 152 | 218 => 153 | 219 => 150 | 260 => 159 | 217 => 155 | 225 => 156 | 224 => 157 | 267 => 158 | 266 => 160 | 314 => 161 | n => n, fun | 9 => 9 | 31 => 57 | 3 => 3 | 4 => 4 | 0 => 0 | 105 => 161 | 21 => 21 | 5 => 5 | 46 => 124 | 119 => 166 | 139 => 169 | 138 => 168 | 146 => 164 | 51 => 127 | n => n, fun | 1 => 0 | 3 => 2 | 4 => 3 | n => n⟩
theorem Tryd.lays146 : Go.Proofs.Lays.n146 Tryd.prog Tryd.lays146_ren := {
  mixed := by kernel_rfl
  f138 := Tryd.func145.trans (congrArg some (by kernel_rfl))
  f143 := Tryd.func146.trans (congrArg some (by kernel_rfl))
  f146 := Tryd.func103.trans (congrArg some (by kernel_rfl))
  f195 := Tryd.func151.trans (congrArg some (by kernel_rfl))
  f197 := Tryd.func152.trans (congrArg some (by kernel_rfl))
  f217 := Tryd.func155.trans (congrArg some (by kernel_rfl))
  f218 := Tryd.func153.trans (congrArg some (by kernel_rfl))
  f219 := Tryd.func150.trans (congrArg some (by kernel_rfl))
  f221 := Tryd.func132.trans (congrArg some (by kernel_rfl))
  f224 := Tryd.func157.trans (congrArg some (by kernel_rfl))
  f225 := Tryd.func156.trans (congrArg some (by kernel_rfl))
  f260 := Tryd.func159.trans (congrArg some (by kernel_rfl))
  f266 := Tryd.func160.trans (congrArg some (by kernel_rfl))
  f267 := Tryd.func158.trans (congrArg some (by kernel_rfl))
  f268 := Tryd.func144.trans (congrArg some (by kernel_rfl))
  f314 := Tryd.func161.trans (congrArg some (by kernel_rfl))
  t0 := Tryd.underlying0
  a0 := Tryd.isAgg0
  z0 := Tryd.sizeOf0
  v0 := Tryd.zeroValue0
  t3 := Tryd.underlying3
  a3 := Tryd.isAgg3
  z3 := Tryd.sizeOf3
  v3 := Tryd.zeroValue3
  t4 := Tryd.underlying4
  a4 := Tryd.isAgg4
  z4 := Tryd.sizeOf4
  v4 := Tryd.zeroValue4
  t5 := Tryd.underlying5
  a5 := Tryd.isAgg5
  z5 := Tryd.sizeOf5
  v5 := Tryd.zeroValue5
  t9 := Tryd.underlying9
  a9 := Tryd.isAgg9
  z9 := Tryd.sizeOf9
  v9 := Tryd.zeroValue9
  t21 := Tryd.underlying21
  a21 := Tryd.isAgg21
  z21 := Tryd.sizeOf21
  v21 := Tryd.zeroValue21
  t31 := Tryd.underlying57
  a31 := Tryd.isAgg57
  z31 := Tryd.sizeOf57
  v31 := Tryd.zeroValue57
  t46 := Tryd.underlying124
  a46 := Tryd.isAgg124
  z46 := Tryd.sizeOf124
  v46 := Tryd.zeroValue124
  t51 := Tryd.underlying127
  a51 := Tryd.isAgg127
  z51 := Tryd.sizeOf127
  v51 := Tryd.zeroValue127
  t105 := Tryd.underlying161
  a105 := Tryd.isAgg161
  z105 := Tryd.sizeOf161
  v105 := Tryd.zeroValue161
  t119 := Tryd.underlying166
  a119 := Tryd.isAgg166
  z119 := Tryd.sizeOf166
  t138 := Tryd.underlying168
  a138 := Tryd.isAgg168
  z138 := Tryd.sizeOf168
  v138 := Tryd.zeroValue168
  t139 := Tryd.underlying169
  a139 := Tryd.isAgg169
  z139 := Tryd.sizeOf169
  v139 := Tryd.zeroValue169
  t146 := Tryd.underlying164
  a146 := Tryd.isAgg164
  z146 := Tryd.sizeOf164
  v146 := Tryd.zeroValue164
  g1 := by kernel_rfl
  g3 := by kernel_rfl
  g4 := by kernel_rfl }
open Go.RowKit Go.Lib in
/-- strings.Split. (LAID: no walk: one application.) -/
theorem Tryd.strings_Split (s sep : ByteArray) (m : Int) (w : World) (hs : s.size < 4294967281) (hm : w.cell? ⟨0, 0, none⟩ = some (.int .i64 m)) (h1 : 1 ≤ sep.size) :
    Calls Tryd.prog 103 #[.string s, .string sep] w fun e w' =>
      e = .returned (.slice (some ⟨w.heap.size, 0, none⟩) (Lib.countB s sep + 1) (Lib.countB s sep + 1)) ∧ w' = w.alloc (.cells ((Lib.splitB sep 0 (Lib.countB s sep) s).map Value.string).toArray 9) := Any.strings_Split Tryd.lays146 (by kernel_rfl) s sep m w hs hm h1
def Tryd.lays197_ren : Go.Shelf.Ren := ⟨fun | 197 => 152 | 260 => 159 | n => n, fun | 9 => 9 | 21 => 21 | 3 => 3 | 4 => 4 | 5 => 5 | 105 => 161 | 119 => 166 | 0 => 0 | 46 => 124 | 139 => 169 | 138 => 168 | n => n, fun | 3 => 2 | 4 => 3 | n => n⟩
theorem Tryd.lays197 : Go.Proofs.Lays.n197 Tryd.prog Tryd.lays197_ren := {
  mixed := by kernel_rfl
  f197 := Tryd.func152.trans (congrArg some (by kernel_rfl))
  f260 := Tryd.func159.trans (congrArg some (by kernel_rfl))
  t0 := Tryd.underlying0
  a0 := Tryd.isAgg0
  z0 := Tryd.sizeOf0
  v0 := Tryd.zeroValue0
  t3 := Tryd.underlying3
  a3 := Tryd.isAgg3
  z3 := Tryd.sizeOf3
  v3 := Tryd.zeroValue3
  t4 := Tryd.underlying4
  a4 := Tryd.isAgg4
  z4 := Tryd.sizeOf4
  v4 := Tryd.zeroValue4
  t5 := Tryd.underlying5
  a5 := Tryd.isAgg5
  z5 := Tryd.sizeOf5
  v5 := Tryd.zeroValue5
  t9 := Tryd.underlying9
  a9 := Tryd.isAgg9
  z9 := Tryd.sizeOf9
  v9 := Tryd.zeroValue9
  t21 := Tryd.underlying21
  a21 := Tryd.isAgg21
  z21 := Tryd.sizeOf21
  v21 := Tryd.zeroValue21
  t46 := Tryd.underlying124
  a46 := Tryd.isAgg124
  z46 := Tryd.sizeOf124
  v46 := Tryd.zeroValue124
  t105 := Tryd.underlying161
  a105 := Tryd.isAgg161
  z105 := Tryd.sizeOf161
  v105 := Tryd.zeroValue161
  t119 := Tryd.underlying166
  a119 := Tryd.isAgg166
  z119 := Tryd.sizeOf166
  t138 := Tryd.underlying168
  a138 := Tryd.isAgg168
  z138 := Tryd.sizeOf168
  v138 := Tryd.zeroValue168
  t139 := Tryd.underlying169
  a139 := Tryd.isAgg169
  z139 := Tryd.sizeOf169
  v139 := Tryd.zeroValue169
  g3 := by kernel_rfl
  g4 := by kernel_rfl }
open Go.RowKit Go.Lib in
/-- unicode/utf8.DecodeRuneInString: "DecodeRuneInString is like DecodeRune but its input is a string.": ("DecodeRune unpacks the first UTF-8 encoding in p and returns the rune and its width in bytes."): WHERE s BEGINS WITH AN ASCII BYTE x: (x, 1). (LAID: no walk: one application.) -/
theorem Tryd.utf8_DecodeRuneInString_ascii (s : ByteArray) (x : UInt8) (w : World) (h0 : s.data.toList[0]? = some x) (hx : x.toNat < 128) :
    Calls Tryd.prog 152 #[.string s] w fun e w' => e = .returned (.tuple #[.int .i32 x.toNat, .int .i64 1]) ∧ w' = w := Any.utf8_DecodeRuneInString_ascii Tryd.lays197 s x w h0 hx
def Tryd.lays195_ren : Go.Shelf.Ren := ⟨fun | 195 => 151 | n => n, fun | 9 => 9 | 3 => 3 | 0 => 0 | 4 => 4 | n => n, fun | n => n⟩
theorem Tryd.lays195 : Go.Proofs.Lays.n195 Tryd.prog Tryd.lays195_ren := {
  mixed := by kernel_rfl
  f195 := Tryd.func151.trans (congrArg some (by kernel_rfl))
  t0 := Tryd.underlying0
  a0 := Tryd.isAgg0
  z0 := Tryd.sizeOf0
  v0 := Tryd.zeroValue0
  t3 := Tryd.underlying3
  a3 := Tryd.isAgg3
  z3 := Tryd.sizeOf3
  v3 := Tryd.zeroValue3
  t4 := Tryd.underlying4
  a4 := Tryd.isAgg4
  z4 := Tryd.sizeOf4
  v4 := Tryd.zeroValue4
  t9 := Tryd.underlying9
  a9 := Tryd.isAgg9
  z9 := Tryd.sizeOf9
  v9 := Tryd.zeroValue9 }
open Go.RowKit Go.Lib in
theorem Tryd.utf8_RuneCountInString_ascii (s : ByteArray) (w : World) (hs : s.size < 4294967281) (hascii : ∀ (j : Nat) b, s.data.toList[j]? = some b → b.toNat < 128) :
    Calls Tryd.prog 151 #[.string s] w fun e w' => e = .returned (.int .i64 s.size) ∧ w' = w.iter s s.size := Any.utf8_RuneCountInString_ascii Tryd.lays195 s w hs hascii
def Tryd.lays268_ren : Go.Shelf.Ren := ⟨fun | 268 => 144 | 195 => 151 | 197 => 152 | 260 => 159 | n => n, fun | 9 => 9 | 3 => 3 | 31 => 57 | 4 => 4 | 105 => 161 | 21 => 21 | 0 => 0 | 5 => 5 | 119 => 166 | 46 => 124 | 139 => 169 | 138 => 168 | n => n, fun | 3 => 2 | 4 => 3 | n => n⟩
theorem Tryd.lays268 : Go.Proofs.Lays.n268 Tryd.prog Tryd.lays268_ren := {
  mixed := by kernel_rfl
  f195 := Tryd.func151.trans (congrArg some (by kernel_rfl))
  f197 := Tryd.func152.trans (congrArg some (by kernel_rfl))
  f260 := Tryd.func159.trans (congrArg some (by kernel_rfl))
  f268 := Tryd.func144.trans (congrArg some (by kernel_rfl))
  t0 := Tryd.underlying0
  a0 := Tryd.isAgg0
  z0 := Tryd.sizeOf0
  v0 := Tryd.zeroValue0
  t3 := Tryd.underlying3
  a3 := Tryd.isAgg3
  z3 := Tryd.sizeOf3
  v3 := Tryd.zeroValue3
  t4 := Tryd.underlying4
  a4 := Tryd.isAgg4
  z4 := Tryd.sizeOf4
  v4 := Tryd.zeroValue4
  t5 := Tryd.underlying5
  a5 := Tryd.isAgg5
  z5 := Tryd.sizeOf5
  v5 := Tryd.zeroValue5
  t9 := Tryd.underlying9
  a9 := Tryd.isAgg9
  z9 := Tryd.sizeOf9
  v9 := Tryd.zeroValue9
  t21 := Tryd.underlying21
  a21 := Tryd.isAgg21
  z21 := Tryd.sizeOf21
  v21 := Tryd.zeroValue21
  t31 := Tryd.underlying57
  a31 := Tryd.isAgg57
  z31 := Tryd.sizeOf57
  v31 := Tryd.zeroValue57
  t46 := Tryd.underlying124
  a46 := Tryd.isAgg124
  z46 := Tryd.sizeOf124
  v46 := Tryd.zeroValue124
  t105 := Tryd.underlying161
  a105 := Tryd.isAgg161
  z105 := Tryd.sizeOf161
  v105 := Tryd.zeroValue161
  t119 := Tryd.underlying166
  a119 := Tryd.isAgg166
  z119 := Tryd.sizeOf166
  t138 := Tryd.underlying168
  a138 := Tryd.isAgg168
  z138 := Tryd.sizeOf168
  v138 := Tryd.zeroValue168
  t139 := Tryd.underlying169
  a139 := Tryd.isAgg169
  z139 := Tryd.sizeOf169
  v139 := Tryd.zeroValue169
  g3 := by kernel_rfl
  g4 := by kernel_rfl }
open Go.RowKit Go.Lib in
theorem Tryd.strings_explode_all (s : ByteArray) (n : Int) (w : World) (hn : n < 0) (hs : s.size < 4294967281) (hascii : ∀ (j : Nat) b, s.data.toList[j]? = some b → b.toNat < 128) :
    Calls Tryd.prog 144 #[.string s, .int .i64 n] w fun e w' =>
      e = .returned (.slice (some ⟨(w.iter s s.size).heap.size, 0, none⟩) s.size s.size) ∧ w' = (w.iter s s.size).alloc (.cells ((Lib.charsB s).map Value.string).toArray 9) := Any.strings_explode_all Tryd.lays268 (by kernel_rfl) s n w hn hs hascii
open Go.RowKit Go.Lib in
/-- strings.genSplit at sep == "", n < 0: 'return explode(s, n)'. (LAID: no walk: one application.) -/
theorem Tryd.strings_genSplit_chars (s sep : ByteArray) (sv n : Int) (w : World) (h0 : sep.size = 0) (hn : n < 0) (hs : s.size < 4294967281) (hascii : ∀ (j : Nat) b, s.data.toList[j]? = some b → b.toNat < 128) :
    Calls Tryd.prog 132 #[.string s, .string sep, .int .i64 sv, .int .i64 n] w fun e w' =>
      e = .returned (.slice (some ⟨(w.iter s s.size).heap.size, 0, none⟩) s.size s.size) ∧ w' = (w.iter s s.size).alloc (.cells ((Lib.charsB s).map Value.string).toArray 9) := Any.strings_genSplit_chars Tryd.lays221 (by kernel_rfl) s sep sv n w h0 hn hs hascii
open Go.RowKit Go.Lib in
/-- strings.Split(s, ""), s ASCII: a piece a byte. (LAID: no walk: one application.) -/
theorem Tryd.strings_Split_chars (s sep : ByteArray) (w : World) (h0 : sep.size = 0) (hs : s.size < 4294967281) (hascii : ∀ (j : Nat) b, s.data.toList[j]? = some b → b.toNat < 128) :
    Calls Tryd.prog 103 #[.string s, .string sep] w fun e w' =>
      e = .returned (.slice (some ⟨(w.iter s s.size).heap.size, 0, none⟩) s.size s.size) ∧ w' = (w.iter s s.size).alloc (.cells ((Lib.charsB s).map Value.string).toArray 9) := Any.strings_Split_chars Tryd.lays146 (by kernel_rfl) s sep w h0 hs hascii
def Tryd.lays260_ren : Go.Shelf.Ren := ⟨fun | 260 => 159 | n => n, fun | 9 => 9 | 21 => 21 | 3 => 3 | 4 => 4 | 5 => 5 | 119 => 166 | 0 => 0 | 46 => 124 | 139 => 169 | 138 => 168 | n => n, fun | 3 => 2 | 4 => 3 | n => n⟩
theorem Tryd.lays260 : Go.Proofs.Lays.n260 Tryd.prog Tryd.lays260_ren := {
  mixed := by kernel_rfl
  f260 := Tryd.func159.trans (congrArg some (by kernel_rfl))
  t0 := Tryd.underlying0
  a0 := Tryd.isAgg0
  z0 := Tryd.sizeOf0
  v0 := Tryd.zeroValue0
  t3 := Tryd.underlying3
  a3 := Tryd.isAgg3
  z3 := Tryd.sizeOf3
  v3 := Tryd.zeroValue3
  t4 := Tryd.underlying4
  a4 := Tryd.isAgg4
  z4 := Tryd.sizeOf4
  v4 := Tryd.zeroValue4
  t5 := Tryd.underlying5
  a5 := Tryd.isAgg5
  z5 := Tryd.sizeOf5
  v5 := Tryd.zeroValue5
  t9 := Tryd.underlying9
  a9 := Tryd.isAgg9
  z9 := Tryd.sizeOf9
  v9 := Tryd.zeroValue9
  t21 := Tryd.underlying21
  a21 := Tryd.isAgg21
  z21 := Tryd.sizeOf21
  v21 := Tryd.zeroValue21
  t46 := Tryd.underlying124
  a46 := Tryd.isAgg124
  z46 := Tryd.sizeOf124
  v46 := Tryd.zeroValue124
  t119 := Tryd.underlying166
  a119 := Tryd.isAgg166
  z119 := Tryd.sizeOf166
  t138 := Tryd.underlying168
  a138 := Tryd.isAgg168
  z138 := Tryd.sizeOf168
  v138 := Tryd.zeroValue168
  t139 := Tryd.underlying169
  a139 := Tryd.isAgg169
  z139 := Tryd.sizeOf169
  v139 := Tryd.zeroValue169
  g3 := by kernel_rfl
  g4 := by kernel_rfl }
open Go.RowKit Go.Lib in
theorem Tryd.utf8_decodeRuneInStringSlow (s : ByteArray) (w : World) (hT : Lib.Utf8Tabs 2 3 w) :
    Calls Tryd.prog 159 #[.string s] w fun e w' => e = .returned (.tuple #[.int .i32 (Lib.decodeGo s).1, .int .i64 (Lib.decodeGo s).2]) ∧ Below w.heap.size w w' := Any.utf8_decodeRuneInStringSlow Tryd.lays260 s w hT
open Go.RowKit Go.Lib in
/-- **unicode/utf8.DecodeRuneInString AT EVERY STRING.** (LAID: no walk: one application.) -/
theorem Tryd.utf8_DecodeRuneInString (s : ByteArray) (w : World) (hT : Lib.Utf8Tabs 2 3 w) :
    Calls Tryd.prog 152 #[.string s] w fun e w' => e = .returned (.tuple #[.int .i32 (Lib.decodeGo s).1, .int .i64 (Lib.decodeGo s).2]) ∧ Below w.heap.size w w' := Any.utf8_DecodeRuneInString Tryd.lays197 s w hT
open Go.RowKit Go.Lib in
theorem Tryd.strings_indexFunc_grows (g : Nat) (lb : Array Value) (eg : ∀ args w, (callFunc g args).run Tryd.prog w = .ok (.enter g args) w) (p : Nat → Bool) (truth : Bool) (s : ByteArray) (w : World) (hp : PredGrows Tryd.prog g lb p w) :
    Calls Tryd.prog 143 #[.string s, .func (.func g) #[] lb, .bool truth] w fun e w' => e = .returned (.int .i64 (Lib.idxFunc p truth s)) ∧ Below w.heap.size w w' := Any.strings_indexFunc_grows Tryd.lays315 g lb eg p truth s w hp
open Go.RowKit Go.Lib in
theorem Tryd.strings_IndexFunc_grows (g : Nat) (lb : Array Value) (eg : ∀ args w, (callFunc g args).run Tryd.prog w = .ok (.enter g args) w) (p : Nat → Bool) (s : ByteArray) (w : World) (hp : PredGrows Tryd.prog g lb p w) :
    Calls Tryd.prog 130 #[.string s, .func (.func g) #[] lb] w fun e w' => e = .returned (.int .i64 (Lib.idxFunc p true s)) ∧ Below w.heap.size w w' := Any.strings_IndexFunc_grows Tryd.laysGw15 g lb eg p s w hp
def Tryd.laysPa45_ren : Go.Shelf.Ren := ⟨fun | 45 => 141 | n => n, fun | 9 => 9 | 5 => 5 | 3 => 3 | 4 => 4 | n => n, fun | n => n⟩
theorem Tryd.laysPa45 : Go.Proofs.Lays.p45 Tryd.prog Tryd.laysPa45_ren := {
  mixed := by kernel_rfl
  f45 := Tryd.func141.trans (congrArg some (by kernel_rfl))
  t3 := Tryd.underlying3
  a3 := Tryd.isAgg3
  z3 := Tryd.sizeOf3
  v3 := Tryd.zeroValue3
  t4 := Tryd.underlying4
  a4 := Tryd.isAgg4
  z4 := Tryd.sizeOf4
  v4 := Tryd.zeroValue4
  t5 := Tryd.underlying5
  a5 := Tryd.isAgg5
  z5 := Tryd.sizeOf5
  v5 := Tryd.zeroValue5
  t9 := Tryd.underlying9
  a9 := Tryd.isAgg9
  z9 := Tryd.sizeOf9
  v9 := Tryd.zeroValue9 }
open Go.RowKit Go.Lib in
/-- internal/bytealg.LastIndexByteString (what strings.LastIndexByte calls: "LastIndexByte returns the index of the last instance of c in s, or -1 if c is not present in s."): IT RETURNS 'Pa.lastIndexByte s c'; the world is as it was. (LAID: no walk: one application.) -/
theorem Tryd.bytealg_LastIndexByteString (s : ByteArray) (c : UInt8) (w : World) (hs : s.size ≤ 9223372036854775807) :
    Calls Tryd.prog 141 #[.string s, .int .u8 c.toNat] w fun e w' => e = .returned (.int .i64 (Pa.lastIndexByte s.data.toList c)) ∧ w' = w := Any.bytealg_LastIndexByteString Tryd.laysPa45 s c w hs
end Go.Proofs
end

section
namespace Go.Proofs.YtmlbfepibfobaaaDoor.Hand
open Go.RowKit Go.Proofs.YtmlbfepibfobaaaDoorW.PrintWords Go.Proofs.YtmlbfepibfobaaaDoorW.PrintLast Go.Proofs.YtmlbfepibfobaaaDoorW.PrintMore
set_option linter.unusedVariables false
set_option linter.unusedSimpArgs false

theorem wrap_in {x : Int} (h0 : -9223372036854775808 ≤ x) (h1 : x < 9223372036854775808) : wrap64 x = x := by
  unfold wrap64
  omega
theorem drawn_trans {a b c : World} (h : Drawn0 a b) (k : Drawn0 b c) : Drawn0 a c := by
  obtain ⟨n, rfl⟩ := h
  obtain ⟨m, rfl⟩ := k
  exact ⟨⟨n + m, World.drewN_drewN ..⟩⟩
/-! ### word.of -/
def ofL (p : Int → Bool) (l : List UInt8) : Bool := l.all (fun b => p (b.toNat : Int)) && decide (0 < l.length ∧ l.length ≤ 32)
theorem bt_data (s : ByteArray) (i : Nat) (h : i < s.size) : bt s (i : Int) = ((s.data.toList[i]'(by rw [Array.length_toList]; exact h)).toNat : Int) := by
  unfold bt
  rw [dif_pos (by simpa using h)]
  rfl
set_option maxHeartbeats 8000000 in
set_option maxRecDepth 100000 in
theorem word_of_walk (g : Nat) (eg : ∀ args w, (callFunc g args).run Tryd.prog w = .ok (.enter g args) w) (p : Int → Bool) (s : ByteArray) (w : World)
    (hg : ∀ (W : World) (c : Int), 0 ≤ c → c ≤ 255 → Calls Tryd.prog g #[.int .u8 c] W fun e w' => e = .returned (.bool (p c)) ∧ Drawn0 W w') (hs : s.size ≤ 9223372036854775807) :
    Calls Tryd.prog 124 #[.string s, .func (.func g) #[] #[]] w fun e w' => e = .returned (.bool (ofL p s.data.toList)) ∧ Drawn0 w w' := by
  have HG := Aside0.mk hg
  have HS := Aside0.mk hs
  clear hg hs
  go_enter Tryd.func124, Tryd.ntmps124
  go_wp2_with fail
  go_loopg [8] s.size (fun kq v8 wr => ∃ i : Nat, v8 = .int .i64 (i : Int) ∧ i + kq = s.size ∧ Aside0 ((s.data.toList.take i).all (fun b => p (b.toNat : Int)) = true) ∧ Drawn0 w wr)
  case atStart => exact ⟨0, rfl, by omega, ⟨rfl⟩, Drawn0.refl _⟩
  case round =>
    obtain ⟨i, rfl, hk, HA, HD⟩ := hrel
    by_cases hi : i < s.size
    · have hi1 : decide ((i : Int) < (s.size : Int)) = true := decide_eq_true (by omega)
      have hi2 : decide (i < s.size) = true := decide_eq_true hi
      have hi0 : decide (0 ≤ (i : Int)) = true := decide_eq_true (by omega)
      have he : wrap64 ((i : Int) + 1) = ((i + 1 : Nat) : Int) := by have := HS.out; rw [wrap_in (by omega) (by omega)]; push_cast; rfl
      have hbt := bt_at s (i : Int)
      have hi3 : (0 ≤ (i : Int)) = True := eq_true (by omega)
      have hi4 : ((i : Int) < (s.size : Int)) = True := eq_true (by omega)
      go_wp2_with fail
      have hc : (s[i].toNat : Int) ≤ 255 := by have := s[i].toNat_lt; omega
      refine (HG.out wr _ (by omega) hc).mono ?_
      rintro e w2 ⟨rfl, hd⟩
      have HD2 : Drawn0 w w2 := drawn_trans HD hd
      clear hd HD
      generalize hb : p (s[i].toNat : Int) = b
      have hget : s.data.toList[i]? = some s[i] := by
        rw [List.getElem?_eq_getElem (by rw [Array.length_toList]; exact hi), Array.getElem_toList]
        rfl
      cases b with
      | true =>
        have HA2 : Aside0 ((s.data.toList.take (i + 1)).all (fun b => p (b.toNat : Int)) = true) := ⟨by
          rw [List.take_add_one, hget, List.all_append, HA.out]
          simp [hb]⟩
        go_wp2
        go_roundg (gk - 1)
        case measure => omega
        case rel => exact ⟨i + 1, by rw [he], by omega, HA2, HD2⟩
      | false =>
        have HN : Aside0 (ofL p s.data.toList = false) := ⟨by
          unfold ofL
          rw [show s.data.toList.all (fun b => p (b.toNat : Int)) = false from by
            rw [Bool.eq_false_iff]
            intro h
            have := List.all_eq_true.1 h s[i] (List.mem_of_getElem? hget)
            rw [hb] at this
            cases this]
          rfl⟩
        clear hget
        go_wp2
        go_ret
        exact ⟨by rw [HN.out]; rfl, HD2⟩
    · obtain rfl : i = s.size := by omega
      have hi1 : decide ((s.size : Int) < (s.size : Int)) = false := decide_eq_false (by omega)
      have hall : s.data.toList.all (fun b => p (b.toNat : Int)) = true := by
        have := HA.out
        rwa [List.take_of_length_le (by rw [Array.length_toList]; exact Nat.le_refl _)] at this
      have HV : Aside0 (ofL p s.data.toList = (!s.toList.isEmpty && decide ((s.size : Int) ≤ 32))) := ⟨by
        unfold ofL
        rw [hall, ByteArray.toList_eq, Bool.true_and, Array.length_toList, Bool.decide_and]
        have e1 : decide (0 < s.data.size) = !s.data.toList.isEmpty := by
          cases h : s.data.toList with
          | nil => have : s.data.size = 0 := by rw [← Array.length_toList, h]; rfl
                   rw [this]; rfl
          | cons x l => have : s.data.size = l.length + 1 := by rw [← Array.length_toList, h]; rfl
                        rw [this]; simp
        rw [e1]
        congr 1
        show decide (s.size ≤ 32) = decide ((s.size : Int) ≤ 32)
        simp only [decide_eq_decide]
        omega⟩
      clear hi hall
      go_wp2
      · rename_i h0
        go_ret
        exact ⟨by rw [HV.out, h0]; rfl, HD⟩
      · go_ret
        exact ⟨by rw [HV.out]; rfl, HD⟩
end Go.Proofs.YtmlbfepibfobaaaDoor.Hand
end

section
namespace Go.Proofs.YtmlbfepibfobaaaDoor.Hand
open Go.RowKit Go.Proofs.YtmlbfepibfobaaaDoorW.PrintWords Go.Proofs.YtmlbfepibfobaaaDoorW.PrintLast Go.Proofs.YtmlbfepibfobaaaDoorW.PrintMore
set_option linter.unusedVariables false
set_option linter.unusedSimpArgs false

/-! ### letters -/
def letterI (c : Int) : Bool := decide (65 ≤ c ∧ c ≤ 90) || decide (97 ≤ c ∧ c ≤ 122) || decide (48 ≤ c ∧ c ≤ 57) || decide (c = 95) || decide (c = 36)
def word_letter.f (a0 : Int) : Option Bool := some (letterI a0)
def secateurref04_letter.f (a0 : Int) : Option Bool := some (letterI a0)
theorem letter_eq (c : Int) : Q4.word_letter.f 4 c = some (letterI c) := by
  unfold Q4.word_letter.f letterI
  simp only [Q4.word_letter.j0, Q4.word_letter.j1, Q4.word_letter.j2]
  by_cases h1 : c = 95
  · subst h1; decide
  by_cases h2 : c = 36
  · subst h2; decide
  by_cases h3 : 65 ≤ c <;> by_cases h4 : c ≤ 90 <;> by_cases h5 : 97 ≤ c <;> by_cases h6 : c ≤ 122 <;> by_cases h7 : 48 ≤ c <;> by_cases h8 : c ≤ 57 <;> simp [*] <;> omega
theorem letterR_eq (c : Int) : Q4.secateurref04_letter.f c = some (letterI c) := by
  unfold Q4.secateurref04_letter.f letterI
  by_cases h1 : c = 95
  · subst h1; decide
  by_cases h2 : c = 36
  · subst h2; decide
  by_cases h3 : 65 ≤ c <;> by_cases h4 : c ≤ 90 <;> by_cases h5 : 97 ≤ c <;> by_cases h6 : c ≤ 122 <;> by_cases h7 : 48 ≤ c <;> by_cases h8 : c ≤ 57 <;> simp [*] <;> omega
theorem word_letter.calls (a0 : Int) (r : Bool) (w : World) (h : word_letter.f a0 = some r) :
    Calls Tryd.prog 126 #[.int .u8 a0] w fun e w' => e = .returned (.bool r) ∧ Drawn0 w w' := Q4.word_letter.calls 4 a0 r w ((letter_eq a0).trans h)
theorem secateurref04_letter.calls (a0 : Int) (r : Bool) (w : World) (h : secateurref04_letter.f a0 = some r) :
    Calls Tryd.prog 134 #[.int .u8 a0] w fun e w' => e = .returned (.bool r) ∧ Drawn0 w w' := Q4.secateurref04_letter.calls a0 r w ((letterR_eq a0).trans h)

/-! ### names -/
def slashL (c : Int) : Bool := letterI c || decide (c = 47)
def initL : List UInt8 := [60, 99, 108, 105, 110, 105, 116, 62]
def nameL (l : List UInt8) : Bool := decide (l = initL) || ofL letterI l
def classL (l : List UInt8) : Bool := ofL slashL l
def word_Name.f (s : ByteArray) : Option Bool := if s.size ≤ 9223372036854775807 then some (nameL s.data.toList) else none
def word_Class.f (s : ByteArray) : Option Bool := if s.size ≤ 9223372036854775807 then some (classL s.data.toList) else none
set_option maxHeartbeats 8000000 in
set_option maxRecDepth 100000 in
theorem word_slash (c : Int) (w : World) : Calls Tryd.prog 125 #[.int .u8 c] w fun e w' => e = .returned (.bool (slashL c)) ∧ Drawn0 w w' := by
  obtain ⟨b, hb⟩ : ∃ b, b = letterI c := ⟨_, rfl⟩
  have HL := Aside0.mk (word_letter.calls c b w (by unfold word_letter.f; rw [hb]))
  have HV : Aside0 (slashL c = (b || decide (c = 47))) := ⟨by unfold slashL; rw [hb]⟩
  clear hb
  go_enter Tryd.func125, Tryd.ntmps125
  go_wp2_with fail
  refine HL.out.mono ?_
  rintro e w1 ⟨rfl, hd⟩
  cases b with
  | true =>
    go_wp2
    go_ret
    exact ⟨by rw [HV.out]; rfl, hd⟩
  | false =>
    go_wp2
    go_ret
    exact ⟨by rw [HV.out]; first | rfl | simp, hd⟩
set_option maxHeartbeats 8000000 in
set_option maxRecDepth 100000 in
theorem word_Class.calls (a0 : ByteArray) (r : Bool) (w : World) (h : word_Class.f a0 = some r) :
    Calls Tryd.prog 98 #[.string a0] w fun e w' => e = .returned (.bool r) ∧ Drawn0 w w' := by
  unfold word_Class.f at h
  split at h
  · rename_i hs
    obtain rfl := Option.some.inj h
    have HW := Aside0.mk (word_of_walk 125 (by intro args w; rfl) slashL a0 w (fun W c _ _ => word_slash c W) hs)
    clear h hs
    go_enter Tryd.func98, Tryd.ntmps98
    go_wp2_with fail
    refine HW.out.mono ?_
    rintro e w1 ⟨rfl, hd⟩
    go_wp2
    go_ret
    exact ⟨rfl, hd⟩
  · cases h
set_option maxHeartbeats 8000000 in
set_option maxRecDepth 100000 in
theorem word_Name.calls (a0 : ByteArray) (r : Bool) (w : World) (h : word_Name.f a0 = some r) :
    Calls Tryd.prog 99 #[.string a0] w fun e w' => e = .returned (.bool r) ∧ Drawn0 w w' := by
  unfold word_Name.f at h
  split at h
  · rename_i hs
    obtain rfl := Option.some.inj h
    have HW := Aside0.mk (word_of_walk 126 (by intro args w; rfl) letterI a0 w (fun W c _ _ => word_letter.calls c _ W rfl) hs)
    have HV : Aside0 (nameL a0.data.toList = ((a0.toList == [60, 99, 108, 105, 110, 105, 116, 62]) || ofL letterI a0.data.toList)) := ⟨by
      unfold nameL
      rw [ByteArray.toList_eq]
      congr 1
      rw [Bool.eq_iff_iff, decide_eq_true_iff, beq_iff_eq]
      rfl⟩
    clear h hs
    go_enter Tryd.func99, Tryd.ntmps99
    go_wp2_with fail
    · rename_i h0
      go_ret
      refine ⟨?_, Drawn0.refl _⟩
      rw [HV.out, h0]
      rfl
    · refine HW.out.mono ?_
      rintro e w1 ⟨rfl, hd⟩
      go_wp2
      go_ret
      exact ⟨by rw [HV.out]; rfl, hd⟩
  · cases h
end Go.Proofs.YtmlbfepibfobaaaDoor.Hand
end

section
namespace Go.Proofs.YtmlbfepibfobaaaDoor.Hand
open Go.RowKit Go.Proofs.YtmlbfepibfobaaaDoorW.PrintWords Go.Proofs.YtmlbfepibfobaaaDoorW.PrintLast Go.Proofs.YtmlbfepibfobaaaDoorW.PrintMore
set_option linter.unusedVariables false
set_option linter.unusedSimpArgs false

def moreL (m : Int) (c : Int) : Bool := letterI c || decide (c = m)
theorem get_data (s : ByteArray) (i : Nat) (h : i < s.size) : s.data.toList[i]'(by rw [Array.length_toList]; exact h) = s[i] := by
  rw [Array.getElem_toList]; rfl
theorem drop_data (s : ByteArray) (i : Nat) (h : i < s.size) : s.data.toList.drop i = s[i] :: s.data.toList.drop (i + 1) := by
  rw [List.drop_eq_getElem_cons (by rw [Array.length_toList]; exact h), get_data s i h]
theorem bt_nat (s : ByteArray) (i : Nat) (h : i < s.size) : bt s (i : Int) = (s[i].toNat : Int) := by
  unfold bt
  rw [dif_pos (by simpa using h)]
  rfl
theorem all_loop (s : ByteArray) (m : Int) (hs : s.size ≤ 9223372036854775806) : ∀ (d i k : Nat), s.size - i = d → i ≤ s.size → d < k → Q4.secateurref04_all.l0 k s m i = some ((s.data.toList.drop i).all (fun b => moreL m (b.toNat : Int))) := by
  intro d
  induction d with
  | zero =>
    intro i k hd hi hk
    obtain ⟨k, rfl⟩ : ∃ j, k = j + 1 := ⟨k - 1, by omega⟩
    rw [Q4.secateurref04_all.l0, if_neg (by omega), List.drop_of_length_le (by rw [Array.length_toList]; show s.size ≤ i; omega)]
    rfl
  | succ d ih =>
    intro i k hd hi hk
    obtain ⟨k, rfl⟩ : ∃ j, k = j + 1 := ⟨k - 1, by omega⟩
    have hlt : i < s.size := by omega
    have ih := ih (i + 1) k (by omega) (by omega) (by omega)
    push_cast at ih
    have e1 : secateurref04_letter.f (bt s i) = some (letterI (bt s i)) := rfl
    have e0 : Q4.secateurref04_letter.f (bt s i) = some (letterI (bt s i)) := letterR_eq _
    rw [Q4.secateurref04_all.l0, if_pos (by omega), if_pos (by omega), e0, Option.bind_some, wrap_in (by omega) (by omega), ih, drop_data s i hlt, List.all_cons, bt_nat s i hlt]
    unfold moreL
    cases letterI (s[i].toNat : Int) with
    | true => simp
    | false =>
      by_cases h : (s[i].toNat : Int) = m
      · simp [h]
      · simp [h]
theorem all_eq (s : ByteArray) (m : Int) (hs : s.size ≤ 9223372036854775806) : Q4.secateurref04_all.f (s.size + 2) s m = some (ofL (moreL m) s.data.toList) := by
  unfold Q4.secateurref04_all.f ofL
  have hl : s.data.toList.length = s.size := by rw [Array.length_toList]; rfl
  rw [hl]
  by_cases h1 : (s.size : Int) < 1
  · rw [if_pos h1, Q4.secateurref04_all.j0, if_pos rfl, decide_eq_false (show ¬ (0 < s.size ∧ s.size ≤ 32) by omega), Bool.and_false]
  · rw [if_neg h1, Q4.secateurref04_all.j0]
    by_cases h2 : (s.size : Int) > 32
    · rw [if_pos (decide_eq_true h2), decide_eq_false (show ¬ (0 < s.size ∧ s.size ≤ 32) by omega), Bool.and_false]
    · rw [if_neg (by rw [decide_eq_false h2]; decide), decide_eq_true (show 0 < s.size ∧ s.size ≤ 32 by omega), Bool.and_true]
      exact all_loop s m hs s.size 0 (s.size + 1) rfl (by omega) (by omega)
theorem ofL_letter (l : List UInt8) : ofL (moreL 95) l = ofL letterI l := by
  have : moreL 95 = letterI := by
    funext c
    unfold moreL
    by_cases h : c = 95
    · subst h; decide
    · rw [decide_eq_false h, Bool.or_false]
  rw [this]
def secateurref04_Name.f (s : ByteArray) : Option Bool := if s.size ≤ 9223372036854775806 then some (nameL s.data.toList) else none
def secateurref04_Class.f (s : ByteArray) : Option Bool := if s.size ≤ 9223372036854775806 then some (classL s.data.toList) else none
theorem classR_eq (s : ByteArray) (hs : s.size ≤ 9223372036854775806) : Q4.secateurref04_Class.f (s.size + 2) s = some (classL s.data.toList) := by
  unfold Q4.secateurref04_Class.f
  rw [all_eq s 47 hs]
  rfl
theorem nameR_eq (s : ByteArray) (hs : s.size ≤ 9223372036854775806) : Q4.secateurref04_Name.f (s.size + 2) s = some (nameL s.data.toList) := by
  unfold Q4.secateurref04_Name.f nameL initL
  rw [all_eq s 95 hs, ofL_letter, ByteArray.toList_eq]
  by_cases h : s.data.toList = [60, 99, 108, 105, 110, 105, 116, 62]
  · rw [if_pos h, decide_eq_true h, Bool.true_or]
  · rw [if_neg h, decide_eq_false h, Bool.false_or]
    rfl
theorem secateurref04_Name.calls (a0 : ByteArray) (r : Bool) (w : World) (h : secateurref04_Name.f a0 = some r) :
    Calls Tryd.prog 64 #[.string a0] w fun e w' => e = .returned (.bool r) ∧ Drawn0 w w' := by
  unfold secateurref04_Name.f at h
  split at h
  · rename_i hs
    exact Q4.secateurref04_Name.calls _ a0 r w ((nameR_eq a0 hs).trans h)
  · cases h
theorem secateurref04_Class.calls (a0 : ByteArray) (r : Bool) (w : World) (h : secateurref04_Class.f a0 = some r) :
    Calls Tryd.prog 63 #[.string a0] w fun e w' => e = .returned (.bool r) ∧ Drawn0 w w' := by
  unfold secateurref04_Class.f at h
  split at h
  · rename_i hs
    exact Q4.secateurref04_Class.calls _ a0 r w ((classR_eq a0 hs).trans h)
  · cases h

/-! ### the last point -/
/-- Where a byte stands last among the first k of a text. -/
def lastAt (s : ByteArray) (c : Int) : Nat → Option Nat
  | 0 => none
  | k + 1 => if bt s k = c then some k else lastAt s c k
def splitB (s : ByteArray) : ByteArray × ByteArray × Bool := match lastAt s 46 s.size with
  | none => (⟨#[]⟩, ⟨#[]⟩, false)
  | some i => if classL (s.extract 0 i).data.toList && nameL (s.extract (i + 1) s.size).data.toList then (s.extract 0 i, s.extract (i + 1) s.size, true) else (⟨#[]⟩, ⟨#[]⟩, false)
def secateurref04_Split.f (s : ByteArray) : Option (ByteArray × ByteArray × Bool) := if s.size ≤ 4611686018427387903 then some (splitB s) else none
theorem extract_size (s : ByteArray) (a b : Nat) : (s.extract a b).size ≤ s.size := by
  rw [ByteArray.size_extract]
  omega
/-- More rounds than a text has bytes serve for each of its parts. -/
theorem mono_le {α : Type} {f : Nat → Option α} (hm : ∀ k, LeO (f k) (f (k + 1))) {j k : Nat} (h : j ≤ k) {r : α} (hr : f j = some r) : f k = some r := by
  induction h with
  | refl => exact hr
  | step _ ih => exact hm _ _ ih
theorem class_part (s : ByteArray) (a b k : Nat) (hs : s.size ≤ 4611686018427387903) (hk : s.size + 2 ≤ k) : Q4.secateurref04_Class.f k (s.extract a b) = some (classL (s.extract a b).data.toList) := by
  have hz := extract_size s a b
  exact mono_le (f := fun k => Q4.secateurref04_Class.f k (s.extract a b)) (fun k => Q4.secateurref04_Class.mono _ k) (show (s.extract a b).size + 2 ≤ k by omega) (classR_eq _ (by omega))
theorem name_part (s : ByteArray) (a b k : Nat) (hs : s.size ≤ 4611686018427387903) (hk : s.size + 2 ≤ k) : Q4.secateurref04_Name.f k (s.extract a b) = some (nameL (s.extract a b).data.toList) := by
  have hz := extract_size s a b
  exact mono_le (f := fun k => Q4.secateurref04_Name.f k (s.extract a b)) (fun k => Q4.secateurref04_Name.mono _ k) (show (s.extract a b).size + 2 ≤ k by omega) (nameR_eq _ (by omega))
end Go.Proofs.YtmlbfepibfobaaaDoor.Hand
end

section
namespace Go.Proofs.YtmlbfepibfobaaaDoor.Hand
open Go.RowKit Go.Proofs.YtmlbfepibfobaaaDoorW.PrintWords Go.Proofs.YtmlbfepibfobaaaDoorW.PrintLast Go.Proofs.YtmlbfepibfobaaaDoorW.PrintMore
set_option linter.unusedVariables false
/- The struct type of lists of rules: the kit's print wrote these lines; they are shared by the layers (layer.py, SHAREK). -/
/-! #### struct type 66 -/
structure S66 where
  f0 : Bool
  f1 : Bool
  f2 : ByteArray
  f3 : ByteArray
  f4 : ByteArray
def z66 : S66 := ⟨false, false, (⟨#[]⟩ : ByteArray), (⟨#[]⟩ : ByteArray), (⟨#[]⟩ : ByteArray)⟩
def k66 : Kd S66 := Kd.iso (Kd.pair Kd.bool (Kd.pair Kd.bool (Kd.pair Kd.string (Kd.pair Kd.string Kd.string)))) (fun x : S66 => (x.f0, x.f1, x.f2, x.f3, x.f4))
theorem k66_open {w : World} {x : S66} {cs : List Value} (h : k66.K w x cs) : cs = [.bool x.f0, .bool x.f1, .string x.f2, .string x.f3, .string x.f4] := by
  obtain ⟨_, _, rfl, rfl, ⟨_, _, rfl, rfl, ⟨_, _, rfl, rfl, ⟨_, _, rfl, rfl, rfl⟩⟩⟩⟩ := h
  exact rfl
theorem k66_openM {w : World} {base : Nat} {ok : Nat → Prop} {x : S66} {cs : List Value} (h : k66.M w base ok x cs) : cs = [.bool x.f0, .bool x.f1, .string x.f2, .string x.f3, .string x.f4] := by
  obtain ⟨_, _, rfl, rfl, ⟨_, _, rfl, rfl, ⟨_, _, rfl, rfl, ⟨_, _, rfl, rfl, rfl⟩⟩⟩⟩ := h
  exact rfl
theorem k66_mk (w : World) (x : S66)  : k66.K w x [.bool x.f0, .bool x.f1, .string x.f2, .string x.f3, .string x.f4] := ⟨[.bool x.f0], [.bool x.f1, .string x.f2, .string x.f3, .string x.f4], rfl, rfl, ⟨[.bool x.f1], [.string x.f2, .string x.f3, .string x.f4], rfl, rfl, ⟨[.string x.f2], [.string x.f3, .string x.f4], rfl, rfl, ⟨[.string x.f3], [.string x.f4], rfl, rfl, rfl⟩⟩⟩⟩
theorem k66_mkM (w : World) (base : Nat) (ok : Nat → Prop) (x : S66)  : k66.M w base ok x [.bool x.f0, .bool x.f1, .string x.f2, .string x.f3, .string x.f4] := ⟨[.bool x.f0], [.bool x.f1, .string x.f2, .string x.f3, .string x.f4], rfl, rfl, ⟨[.bool x.f1], [.string x.f2, .string x.f3, .string x.f4], rfl, rfl, ⟨[.string x.f2], [.string x.f3, .string x.f4], rfl, rfl, ⟨[.string x.f3], [.string x.f4], rfl, rfl, rfl⟩⟩⟩⟩
def rd_T66 (xs : List S66) (i : Int) : S66 := xs.getD i.toNat z66
theorem at_T66 {w : World} {A : Option Addr} {n : Nat} {xs : List S66} (h : Kd.C k66 w A n xs) (i : Int) (h0 : 0 ≤ i) (h1 : i < n) : ∃ ad , A = some ad ∧ w.cell? (ad.add (i.toNat * 5)) = some (.bool (rd_T66 xs i).f0) ∧ w.cell? ⟨(ad.add (i.toNat * 5)).block, (ad.add (i.toNat * 5)).off + 1, none⟩ = some (.bool (rd_T66 xs i).f1) ∧ w.cell? ⟨(ad.add (i.toNat * 5)).block, (ad.add (i.toNat * 5)).off + 2, none⟩ = some (.string (rd_T66 xs i).f2) ∧ w.cell? ⟨(ad.add (i.toNat * 5)).block, (ad.add (i.toNat * 5)).off + 3, none⟩ = some (.string (rd_T66 xs i).f3) ∧ w.cell? ⟨(ad.add (i.toNat * 5)).block, (ad.add (i.toNat * 5)).off + 4, none⟩ = some (.string (rd_T66 xs i).f4) := by
  obtain ⟨ad, c, e, _, hK, hc0⟩ := Kd.C_get h z66 i h0 h1
  have hc : ∀ j u, c[j]? = some u → w.cell? (ad.add (i.toNat * 5 + j)) = some u := hc0
  obtain rfl := k66_open hK
  exact ⟨ad, e, hc 0 _ rfl, by rw [← add_field _ _ 1 (by omega)]; exact hc 1 _ rfl, by rw [← add_field _ _ 2 (by omega)]; exact hc 2 _ rfl, by rw [← add_field _ _ 3 (by omega)]; exact hc 3 _ rfl, by rw [← add_field _ _ 4 (by omega)]; exact hc 4 _ rfl⟩
end Go.Proofs.YtmlbfepibfobaaaDoor.Hand
end

section
namespace Go.Proofs.YtmlbfepibfobaaaDoor.Hand
/-! ### texts as lists of bytes -/
def bl (s : ByteArray) : List UInt8 := s.data.toList
def lb (l : List UInt8) : ByteArray := ⟨l.toArray⟩
@[simp] theorem bl_lb (l : List UInt8) : bl (lb l) = l := rfl
@[simp] theorem lb_bl (s : ByteArray) : lb (bl s) = s := by cases s; simp [lb, bl]
theorem bl_inj {a b : ByteArray} (h : bl a = bl b) : a = b := by rw [← lb_bl a, ← lb_bl b, h]
theorem bl_len (s : ByteArray) : (bl s).length = s.size := by unfold bl; rw [Array.length_toList]; rfl
theorem lb_size (l : List UInt8) : (lb l).size = l.length := rfl
theorem bl_append (a b : ByteArray) : bl (a ++ b) = bl a ++ bl b := by simp [bl, ByteArray.data_append]
theorem bl_nil : bl ⟨#[]⟩ = [] := rfl

/-! ### numbers -/
def digB (b : UInt8) : Bool := decide (48 ≤ b.toNat ∧ b.toNat ≤ 57)
def digC (d : Nat) : UInt8 := UInt8.ofNat (48 + d)
def decR : Nat → Nat → List UInt8
  | 0, _ => []
  | f + 1, n => if n < 10 then [digC n] else digC (n % 10) :: decR f (n / 10)
def decL (n : Nat) : List UInt8 := (decR 20 n).reverse
def digitsL (n : Int) : List UInt8 := if n < 0 then 45 :: decL n.natAbs else decL n.natAbs
def valF (a : Nat) (b : UInt8) : Nat := a * 10 + (b.toNat - 48)
def valL (l : List UInt8) : Nat := l.foldl valF 0
def formB (l : List UInt8) : Bool := !l.isEmpty && (l.head? != some 48 || l == [48]) && l.all digB
def parseL (l : List UInt8) : Int × Int := if formB l = true then (if valL l > 65536 then (0, 12) else ((valL l : Int), 0)) else (0, 1)

theorem dig_of {d : Nat} (h : d < 10) : digB (digC d) = true ∧ (digC d).toNat = 48 + d := by
  have h1 : (digC d).toNat = 48 + d := by unfold digC; rw [UInt8.toNat_ofNat']; omega
  refine ⟨?_, h1⟩
  unfold digB
  rw [h1]
  simp
  omega
theorem decR_dig : ∀ f n, (decR f n).all digB = true
  | 0, _ => rfl
  | f + 1, n => by
    unfold decR
    split
    · rename_i h
      simp [(dig_of h).1]
    · rw [List.all_cons, (dig_of (Nat.mod_lt n (by decide))).1, decR_dig f, Bool.and_self]
theorem foldl_rev (l : List UInt8) : ∀ b, l.reverse.foldl valF b = (l.foldr (fun c a => valF a c) b) := by
  intro b
  rw [List.foldl_reverse]
theorem decR_val : ∀ f n, n < 10 ^ f → (decR f n).foldr (fun c a => valF a c) 0 = n
  | 0, n, h => by simp at h; subst h; rfl
  | f + 1, n, h => by
    unfold decR
    split
    · rename_i h1
      simp [valF, (dig_of h1).2]
    · rename_i h1
      have ih := decR_val f (n / 10) (by rw [Nat.pow_succ] at h; omega)
      rw [List.foldr_cons, ih]
      unfold valF
      rw [(dig_of (Nat.mod_lt n (by decide))).2]
      omega
theorem decL_val {n : Nat} (h : n < 10 ^ 20) : valL (decL n) = n := by
  unfold valL decL
  rw [foldl_rev, decR_val 20 n h]
theorem decR_last : ∀ f n, n < 10 ^ f → 0 < n → ∃ d, (decR f n).getLast? = some (digC d) ∧ 0 < d ∧ d < 10
  | 0, n, h, h0 => by simp at h; omega
  | f + 1, n, h, h0 => by
    unfold decR
    split
    · rename_i h1
      exact ⟨n, rfl, h0, h1⟩
    · rename_i h1
      obtain ⟨d, hd, h2⟩ := decR_last f (n / 10) (by rw [Nat.pow_succ] at h; omega) (by omega)
      refine ⟨d, ?_, h2⟩
      rw [List.getLast?_cons, hd]
      rfl
theorem decL_zero : decL 0 = [48] := rfl
theorem decL_form {n : Nat} (h : n < 10 ^ 20) : formB (decL n) = true := by
  rcases Nat.eq_zero_or_pos n with rfl | h0
  · decide
  · obtain ⟨d, hd, h1, h2⟩ := decR_last 20 n h h0
    have hh : (decL n).head? = some (digC d) := by unfold decL; rw [List.head?_reverse, hd]
    have hne : decL n ≠ [] := by intro e; rw [e] at hh; cases hh
    have hd2 : digC d ≠ 48 := by
      intro e
      have := (dig_of h2).2
      rw [e] at this
      have h3 : (48 : UInt8).toNat = 48 := rfl
      omega
    have hall : (decL n).all digB = true := by unfold decL; rw [List.all_reverse, decR_dig]
    unfold formB
    rw [hh, hall]
    cases hl : decL n with
    | nil => exact absurd hl hne
    | cons x r => simp [bne, hd2]
theorem parse_digits (n : Int) (h0 : -9223372036854775808 ≤ n) (h1 : n ≤ 9223372036854775807) : parseL (digitsL n) = if n < 0 then (0, 1) else if n > 65536 then (0, 12) else (n, 0) := by
  have hb : n.natAbs < 10 ^ 20 := by have : (10 : Nat) ^ 20 = 100000000000000000000 := by decide
                                     omega
  unfold parseL digitsL
  by_cases hn : n < 0
  · rw [if_pos hn, if_pos hn, if_neg]
    unfold formB
    rw [List.all_cons, show digB 45 = false from by decide]
    simp
  · rw [if_neg hn, if_neg hn, if_pos (decL_form hb), decL_val hb]
    by_cases h2 : n > 65536
    · rw [if_pos (by omega), if_pos h2]
    · rw [if_neg (by omega), if_neg h2]
      congr 1
      omega
theorem dig_back {x : UInt8} (h : digB x = true) : digC (x.toNat - 48) = x ∧ x.toNat - 48 < 10 := by
  unfold digB at h
  have h := of_decide_eq_true h
  have e : 48 + (x.toNat - 48) = x.toNat := by omega
  unfold digC
  rw [e]
  exact ⟨by simp, by omega⟩
def valR (r : List UInt8) : Nat := r.foldr (fun c a => valF a c) 0
theorem valR_cons (x : UInt8) (r : List UInt8) : valR (x :: r) = valR r * 10 + (x.toNat - 48) := rfl
theorem valR_pos : ∀ (r : List UInt8), r.all digB = true → r ≠ [] → r.getLast? ≠ some 48 → 0 < valR r
  | [], _, h, _ => absurd rfl h
  | [x], h, _, h1 => by
    rw [valR_cons]
    simp at h h1
    unfold digB at h
    have h := of_decide_eq_true h
    have h3 : x.toNat ≠ 48 := fun e => h1 (UInt8.toNat.inj e)
    omega
  | x :: y :: r, h, _, h1 => by
    rw [valR_cons]
    have := valR_pos (y :: r) (by simp at h ⊢; exact h.2) (by simp) (by rw [List.getLast?_cons_cons] at h1; exact h1)
    omega
theorem decR_back : ∀ (f : Nat) (r : List UInt8), r.all digB = true → r ≠ [] → (r.getLast? ≠ some 48 ∨ r = [48]) → r.length ≤ f → decR f (valR r) = r
  | f, [], _, h, _, _ => absurd rfl h
  | 0, x :: r, _, _, _, h => by simp at h
  | f + 1, [x], h, _, _, _ => by
    simp at h
    have hb := dig_back h
    rw [valR_cons, decR, if_pos (by show 0 * 10 + _ < 10; omega)]
    show [digC (0 * 10 + _)] = _
    rw [Nat.zero_mul, Nat.zero_add, hb.1]
  | f + 1, x :: y :: r, h, _, h1, hf => by
    have hx : digB x = true := by simp at h; exact h.1
    have hy : (y :: r).all digB = true := by simp at h ⊢; exact h.2
    have hl : (y :: r).getLast? ≠ some 48 := by
      rcases h1 with h1 | h1
      · rw [List.getLast?_cons_cons] at h1; exact h1
      · cases h1
    have hp := valR_pos (y :: r) hy (by simp) hl
    have hb := dig_back hx
    have ih := decR_back f (y :: r) hy (by simp) (.inl hl) (by simp at hf ⊢; omega)
    rw [valR_cons, decR, if_neg (by omega)]
    have e1 : (valR (y :: r) * 10 + (x.toNat - 48)) % 10 = x.toNat - 48 := by omega
    have e2 : (valR (y :: r) * 10 + (x.toNat - 48)) / 10 = valR (y :: r) := by omega
    rw [e1, e2, ih, hb.1]
theorem valR_eq (l : List UInt8) : valL l = valR l.reverse := by
  have := foldl_rev l.reverse 0
  rw [List.reverse_reverse] at this
  exact this
theorem valR_ge : ∀ (r : List UInt8), r.all digB = true → r.getLast? ≠ some 48 → r ≠ [] → 10 ^ (r.length - 1) ≤ valR r
  | [], _, _, h => absurd rfl h
  | [x], h, h1, h0 => by have := valR_pos [x] h h0 h1; exact this
  | x :: y :: r, h, h1, _ => by
    have ih := valR_ge (y :: r) (by simp at h ⊢; exact h.2) (by rw [List.getLast?_cons_cons] at h1; exact h1) (by simp)
    rw [valR_cons]
    have e : (x :: y :: r).length - 1 = (y :: r).length - 1 + 1 := by simp
    rw [e, Nat.pow_succ]
    omega
theorem digits_parse (l : List UInt8) (y : Int) (h : parseL l = (y, 0)) : digitsL y = l := by
  unfold parseL at h
  split at h
  · rename_i hf
    split at h
    · have h2 := congrArg Prod.snd h; simp at h2
    · rename_i hv
      have hy : (valL l : Int) = y := congrArg Prod.fst h
      subst hy
      unfold digitsL
      rw [if_neg (by omega), Int.natAbs_natCast]
      unfold formB at hf
      simp only [Bool.and_eq_true, Bool.or_eq_true] at hf
      obtain ⟨⟨h1, h2⟩, h3⟩ := hf
      have hne : l.reverse ≠ [] := by intro e; rw [List.reverse_eq_nil_iff] at e; subst e; cases h1
      have hr : l.reverse.all digB = true := by rw [List.all_reverse, h3]
      have hd : l.reverse.getLast? ≠ some 48 ∨ l.reverse = [48] := by
        rcases h2 with h2 | h2
        · left
          rw [List.getLast?_reverse]
          simpa using h2
        · right
          have : l = [48] := by simpa using h2
          rw [this]
          rfl
      have hlen : l.reverse.length ≤ 20 := by
        rcases hd with hd | hd
        · have hg := valR_ge l.reverse hr hd hne
          rw [← valR_eq] at hg
          rcases Nat.lt_or_ge 20 l.reverse.length with hx | hx
          · have : 10 ^ 20 ≤ 10 ^ (l.reverse.length - 1) := Nat.pow_le_pow_right (by decide) (by omega)
            have e20 : (10 : Nat) ^ 20 = 100000000000000000000 := by decide
            omega
          · exact hx
        · rw [hd]; decide
      unfold decL
      rw [valR_eq, decR_back 20 l.reverse hr hne hd hlen, List.reverse_reverse]
  · have h2 := congrArg Prod.snd h; simp at h2

/-! ### lines -/
def seen (b : UInt8) : Bool := decide (32 ≤ b.toNat ∧ b.toNat ≤ 126)
def lin : List UInt8 → List (List UInt8) → List UInt8 → List (List UInt8) × Int × Int
  | cur, out, [] => if cur = [] then (out, 0, 0) else ([], 1, (out.length : Int) + 1)
  | cur, out, b :: r => if b = 10 then lin [] (out ++ [cur]) r else if seen b = true then lin (cur ++ [b]) out r else ([], 1, (out.length : Int) + 1)
def linesL (s : List UInt8) : List (List UInt8) × Int × Int := if s.length > 65536 then ([], 3, 0) else lin [] [] s
def textL (l : List (List UInt8)) : List UInt8 := l.flatMap (fun s => s ++ [10])
theorem seen_nl {b : UInt8} (h : seen b = true) : b ≠ 10 := by rintro rfl; revert h; decide
theorem lin_line (x : List UInt8) (hx : x.all seen = true) : ∀ (cur : List UInt8) (out : List (List UInt8)) (r : List UInt8), lin cur out (x ++ 10 :: r) = lin [] (out ++ [cur ++ x]) r := by
  induction x with
  | nil => intro cur out r; simp [lin]
  | cons b x ih =>
    intro cur out r
    simp only [List.all_cons, Bool.and_eq_true] at hx
    rw [List.cons_append, lin, if_neg (seen_nl hx.1), if_pos hx.1, ih hx.2]
    simp
theorem textL_cons (x : List UInt8) (l : List (List UInt8)) : textL (x :: l) = x ++ 10 :: textL l := by simp [textL]
theorem textL_append (a b : List (List UInt8)) : textL (a ++ b) = textL a ++ textL b := by simp [textL]
theorem lin_text : ∀ (l : List (List UInt8)), (∀ x ∈ l, x.all seen = true) → ∀ out, lin [] out (textL l) = (out ++ l, 0, 0)
  | [], _, out => by simp [textL, lin]
  | x :: l, h, out => by
    rw [textL_cons, lin_line x (h x (by simp)), lin_text l (fun y hy => h y (by simp [hy]))]
    simp
theorem lines_text (l : List (List UInt8)) (h : ∀ x ∈ l, x.all seen = true) (hn : (textL l).length ≤ 65536) : linesL (textL l) = (l, 0, 0) := by
  unfold linesL
  rw [if_neg (by omega), lin_text l h]
  rfl
theorem lin_back : ∀ (s cur : List UInt8) (out m : List (List UInt8)) (f : Int), lin cur out s = (m, 0, f) → textL out ++ cur ++ s = textL m ∧ f = 0
  | [], cur, out, m, f, h => by
    unfold lin at h
    split at h
    · rename_i hc
      simp at h
      simp [hc, h]
    · simp at h
  | b :: r, cur, out, m, f, h => by
    unfold lin at h
    split at h
    · rename_i hb
      have := lin_back r [] (out ++ [cur]) m f h
      rw [textL_append] at this
      simp [textL] at this ⊢
      rw [hb]
      exact this
    · split at h
      · have := lin_back r (cur ++ [b]) out m f h
        simpa using this
      · simp at h
theorem lines_back (s : List UInt8) (m : List (List UInt8)) (f : Int) (h : linesL s = (m, 0, f)) : textL m = s ∧ f = 0 := by
  unfold linesL at h
  split at h
  · simp at h
  · have := lin_back s [] [] m f h
    simp [textL] at this
    simp [textL, this]
theorem lin_seen : ∀ (s cur : List UInt8) (out m : List (List UInt8)) (f : Int), lin cur out s = (m, 0, f) → cur.all seen = true → (∀ x ∈ out, x.all seen = true) → ∀ x ∈ m, x.all seen = true
  | [], cur, out, m, f, h, hc, ho => by
    unfold lin at h
    split at h
    · simp at h
      rw [← h.1]
      exact ho
    · simp at h
  | b :: r, cur, out, m, f, h, hc, ho => by
    unfold lin at h
    split at h
    · refine lin_seen r [] (out ++ [cur]) m f h rfl ?_
      intro x hx
      simp at hx
      rcases hx with hx | hx
      · exact ho x hx
      · rw [hx]; exact hc
    · split at h
      · rename_i hb
        refine lin_seen r (cur ++ [b]) out m f h ?_ ho
        rw [List.all_append, hc, List.all_cons, hb]
        rfl
      · simp at h

/-! ### fields -/
def fld : List UInt8 → List UInt8 → List (List UInt8)
  | cur, [] => [cur]
  | cur, b :: r => if b = 32 then cur :: fld [] r else fld (cur ++ [b]) r
def fieldsL (s : List UInt8) : List (List UInt8) := fld [] s
def lineL : List (List UInt8) → List UInt8
  | [] => []
  | [x] => x
  | x :: y :: l => x ++ 32 :: lineL (y :: l)
theorem fld_ne : ∀ (s cur : List UInt8), fld cur s ≠ []
  | [], _ => by simp [fld]
  | b :: r, cur => by
    unfold fld
    split
    · simp
    · exact fld_ne r _
theorem lineL_cons (x : List UInt8) (l : List (List UInt8)) (h : l ≠ []) : lineL (x :: l) = x ++ 32 :: lineL l := by
  cases l with
  | nil => exact absurd rfl h
  | cons y l => rfl
theorem line_fld : ∀ (s cur : List UInt8), lineL (fld cur s) = cur ++ s
  | [], cur => by simp [fld, lineL]
  | b :: r, cur => by
    unfold fld
    split
    · rename_i hb
      rw [lineL_cons _ _ (fld_ne _ _), line_fld r [], hb]
      simp
    · rw [line_fld r]
      simp
theorem line_fields (s : List UInt8) : lineL (fieldsL s) = s := line_fld s []
def blank (l : List UInt8) : Bool := l.any (fun b => b == 32)
theorem fld_word : ∀ (x cur r : List UInt8), blank x = false → fld cur (x ++ 32 :: r) = (cur ++ x) :: fld [] r
  | [], cur, r, _ => by simp [fld]
  | b :: x, cur, r, h => by
    unfold blank at h
    simp only [List.any_cons, Bool.or_eq_false_iff] at h
    rw [List.cons_append, fld, if_neg (by simpa using h.1), fld_word x _ r h.2]
    simp
theorem fld_last : ∀ (x cur : List UInt8), blank x = false → fld cur x = [cur ++ x]
  | [], cur, _ => by simp [fld]
  | b :: x, cur, h => by
    unfold blank at h
    simp only [List.any_cons, Bool.or_eq_false_iff] at h
    rw [fld, if_neg (by simpa using h.1), fld_last x _ h.2]
    simp
theorem fields_line : ∀ (l : List (List UInt8)), l ≠ [] → (∀ x ∈ l, blank x = false) → fieldsL (lineL l) = l
  | [], h, _ => absurd rfl h
  | [x], _, h => by unfold fieldsL lineL; rw [fld_last x [] (h x (by simp))]; simp
  | x :: y :: l, _, h => by
    have ih := fields_line (y :: l) (by simp) (fun z hz => h z (by simp only [List.mem_cons] at hz ⊢; right; exact hz))
    unfold fieldsL at ih ⊢
    rw [lineL_cons _ _ (by simp), fld_word x [] _ (h x (by simp)), ih]
    simp
end Go.Proofs.YtmlbfepibfobaaaDoor.Hand
end

section
namespace Go.Proofs.YtmlbfepibfobaaaDoor.Hand
/-! ### rules and their texts -/
abbrev Rl := Bool × Bool × List UInt8 × List UInt8 × List UInt8
def globB (b : UInt8) : Bool := decide (33 ≤ b.toNat ∧ b.toNat ≤ 126)
def globR (l : List UInt8) : Bool := l.all globB && decide (0 < l.length ∧ l.length ≤ 64)
def rightR (r : Rl) : Bool := globR r.2.2.1 && (if r.2.1 = true then globR r.2.2.2.1 && globR r.2.2.2.2 else decide (r.2.2.2.1 = [] ∧ r.2.2.2.2 = []))
def keepW : List UInt8 := [107, 101, 101, 112]
def namesW : List UInt8 := [107, 101, 101, 112, 110, 97, 109, 101]
def classW : List UInt8 := [99, 108, 97, 115, 115]
def memberW : List UInt8 := [109, 101, 109, 98, 101, 114]
def wordsR (r : Rl) : List (List UInt8) := if r.2.1 = true then [if r.1 = true then namesW else keepW, memberW, r.2.2.1, r.2.2.2.1, r.2.2.2.2] else [if r.1 = true then namesW else keepW, classW, r.2.2.1]
def lineR (r : Rl) : List UInt8 := lineL (wordsR r)
/-- The rule that words are. -/
def readR : List (List UInt8) → Option Rl
  | [a, b, c] => if b = classW ∧ (a = namesW ∨ a = keepW) ∧ rightR (decide (a = namesW), false, c, [], []) = true then some (decide (a = namesW), false, c, [], []) else none
  | [a, b, c, d, e] => if b = memberW ∧ (a = namesW ∨ a = keepW) ∧ rightR (decide (a = namesW), true, c, d, e) = true then some (decide (a = namesW), true, c, d, e) else none
  | _ => none
def rulesF : Nat → List Rl → List (List UInt8) → List Rl × Int × Int
  | _, out, [] => (out, 0, 0)
  | i, out, l :: ls => match readR (fieldsL l) with
    | some r => if 64 ≤ i then ([], 3, (i : Int) + 1) else rulesF (i + 1) (out ++ [r]) ls
    | none => ([], 10, (i : Int) + 1)
def rulesL (s : List UInt8) : List Rl × Int × Int := match linesL s with
  | (l, e, at_) => if e = 0 then rulesF 0 [] l else ([], e, at_)
def printR (l : List Rl) : List UInt8 × Int := if l.length > 64 then ([], 3) else if l.all rightR = true then (textL (l.map lineR), 0) else ([], 10)

theorem blank_words {s : List UInt8} : ∀ cur, blank cur = false → ∀ x ∈ fld cur s, blank x = false := by
  induction s with
  | nil => intro cur h x hx; simp [fld] at hx; rw [hx]; exact h
  | cons b s ih =>
    intro cur h x hx
    unfold fld at hx
    split at hx
    · simp at hx
      rcases hx with hx | hx
      · rw [hx]; exact h
      · exact ih [] rfl x hx
    · rename_i hb
      refine ih (cur ++ [b]) ?_ x hx
      unfold blank at h ⊢
      rw [List.any_append, h]
      simpa using hb
theorem blank_fields (s : List UInt8) : ∀ x ∈ fieldsL s, blank x = false := blank_words [] rfl
theorem fields_inj {l : List (List UInt8)} {s : List UInt8} (hl : l ≠ []) (h : ∀ x ∈ l, blank x = false) : lineL l = s ↔ fieldsL s = l := by
  constructor
  · rintro rfl; exact fields_line l hl h
  · rintro rfl; exact line_fields s
theorem globB_seen {b : UInt8} (h : globB b = true) : seen b = true ∧ b ≠ 32 := by
  unfold globB at h
  have h := of_decide_eq_true h
  refine ⟨by unfold seen; exact decide_eq_true (by omega), ?_⟩
  rintro rfl
  have : (32 : UInt8).toNat = 32 := rfl
  omega
theorem globR_seen {l : List UInt8} (h : globR l = true) : l.all seen = true ∧ blank l = false ∧ l.length ≤ 64 ∧ 0 < l.length := by
  unfold globR at h
  simp only [Bool.and_eq_true, decide_eq_true_iff] at h
  refine ⟨List.all_eq_true.2 fun b hb => (globB_seen (List.all_eq_true.1 h.1 b hb)).1, ?_, h.2.2, h.2.1⟩
  unfold blank
  rw [List.any_eq_false]
  intro b hb
  have := (globB_seen (List.all_eq_true.1 h.1 b hb)).2
  simpa using this
theorem words_seen {r : Rl} (h : rightR r = true) : (∀ x ∈ wordsR r, x.all seen = true ∧ blank x = false ∧ x.length ≤ 64) ∧ wordsR r ≠ [] ∧ (wordsR r).length ≤ 5 := by
  obtain ⟨n, m, c, a, d⟩ := r
  unfold rightR at h
  simp only [Bool.and_eq_true] at h
  have hc := globR_seen h.1
  have hk : ∀ b : Bool, (if b = true then namesW else keepW).all seen = true ∧ blank (if b = true then namesW else keepW) = false ∧ (if b = true then namesW else keepW).length ≤ 64 := by decide
  have h1 : classW.all seen = true ∧ blank classW = false ∧ classW.length ≤ 64 := by decide
  have h2 : memberW.all seen = true ∧ blank memberW = false ∧ memberW.length ≤ 64 := by decide
  cases m with
  | true =>
    have h3 := h.2
    simp only [if_true, Bool.and_eq_true] at h3
    have ha := globR_seen h3.1
    have hd := globR_seen h3.2
    refine ⟨?_, by simp [wordsR], by simp [wordsR]⟩
    intro x hx
    simp only [wordsR, if_true, List.mem_cons, List.not_mem_nil, or_false] at hx
    rcases hx with rfl | rfl | rfl | rfl | rfl
    · exact hk n
    · exact h2
    · exact ⟨hc.1, hc.2.1, hc.2.2.1⟩
    · exact ⟨ha.1, ha.2.1, ha.2.2.1⟩
    · exact ⟨hd.1, hd.2.1, hd.2.2.1⟩
  | false =>
    refine ⟨?_, by simp [wordsR], by simp [wordsR]⟩
    intro x hx
    simp only [wordsR, Bool.false_eq_true, if_false, List.mem_cons, List.not_mem_nil, or_false] at hx
    rcases hx with rfl | rfl | rfl
    · exact hk n
    · exact h1
    · exact ⟨hc.1, hc.2.1, hc.2.2.1⟩
theorem read_words {r : Rl} (h : rightR r = true) : readR (wordsR r) = some r := by
  obtain ⟨n, m, c, a, d⟩ := r
  have hn : ∀ b : Bool, ((if b = true then namesW else keepW) = namesW ∨ (if b = true then namesW else keepW) = keepW) ∧ decide ((if b = true then namesW else keepW) = namesW) = b := by decide
  cases m with
  | true =>
    simp only [wordsR, if_true, readR]
    rw [(hn n).2, if_pos ⟨by trivial, (hn n).1, h⟩]
  | false =>
    have h' := h
    unfold rightR at h'
    simp only [Bool.false_eq_true, if_false, Bool.and_eq_true, decide_eq_true_iff] at h'
    obtain ⟨_, rfl, rfl⟩ := h'
    simp only [wordsR, Bool.false_eq_true, if_false, readR]
    rw [(hn n).2, if_pos ⟨by trivial, (hn n).1, h⟩]
theorem words_read {w : List (List UInt8)} {r : Rl} (h : readR w = some r) : rightR r = true ∧ wordsR r = w := by
  unfold readR at h
  split at h
  · rename_i a b c
    split at h
    · rename_i hg
      simp only [Option.some.injEq] at h
      subst h
      refine ⟨hg.2.2, ?_⟩
      simp only [wordsR, Bool.false_eq_true, if_false]
      rw [hg.1]
      rcases hg.2.1 with e | e
      · rw [e]; simp
      · rw [e]; simp [show keepW ≠ namesW from by decide]
    · cases h
  · rename_i a b c d e
    split at h
    · rename_i hg
      simp only [Option.some.injEq] at h
      subst h
      refine ⟨hg.2.2, ?_⟩
      simp only [wordsR, if_true]
      rw [hg.1]
      rcases hg.2.1 with e | e
      · rw [e]; simp
      · rw [e]; simp [show keepW ≠ namesW from by decide]
    · cases h
  · cases h
theorem read_line {r : Rl} (h : rightR r = true) : readR (fieldsL (lineR r)) = some r := by
  obtain ⟨h1, h2, _⟩ := words_seen h
  unfold lineR
  rw [fields_line _ h2 (fun x hx => (h1 x hx).2.1), read_words h]
theorem line_read {s : List UInt8} {r : Rl} (h : readR (fieldsL s) = some r) : rightR r = true ∧ lineR r = s := by
  obtain ⟨h1, h2⟩ := words_read h
  refine ⟨h1, ?_⟩
  unfold lineR
  rw [h2, line_fields]
theorem lineL_seen : ∀ (l : List (List UInt8)), (∀ x ∈ l, x.all seen = true) → (lineL l).all seen = true
  | [], _ => rfl
  | [x], h => h x (by simp)
  | x :: y :: l, h => by
    have ih := lineL_seen (y :: l) (fun z hz => h z (by simp only [List.mem_cons] at hz ⊢; right; exact hz))
    rw [lineL_cons _ _ (by simp), List.all_append, h x (by simp), List.all_cons, ih]
    decide
theorem lineL_len : ∀ (l : List (List UInt8)), (∀ x ∈ l, x.length ≤ 64) → (lineL l).length ≤ 65 * l.length
  | [], _ => by simp [lineL]
  | [x], h => by have := h x (by simp); simp [lineL]; omega
  | x :: y :: l, h => by
    have ih := lineL_len (y :: l) (fun z hz => h z (by simp only [List.mem_cons] at hz ⊢; right; exact hz))
    have := h x (by simp)
    rw [lineL_cons _ _ (by simp), List.length_append, List.length_cons]
    simp only [List.length_cons] at ih ⊢
    omega
theorem textL_len : ∀ (l : List (List UInt8)) (n : Nat), (∀ x ∈ l, x.length ≤ n) → (textL l).length ≤ (n + 1) * l.length
  | [], _, _ => by simp [textL]
  | x :: l, n, h => by
    have ih := textL_len l n (fun z hz => h z (by simp [hz]))
    have := h x (by simp)
    rw [textL_cons, List.length_append, List.length_cons, List.length_cons, Nat.mul_add]
    omega
theorem rulesF_lines : ∀ (l : List Rl) (i : Nat) (out : List Rl), (∀ r ∈ l, rightR r = true) → i + l.length ≤ 64 → rulesF i out (l.map lineR) = (out ++ l, 0, 0)
  | [], i, out, _, _ => by simp [rulesF]
  | r :: l, i, out, h, hi => by
    simp only [List.length_cons] at hi
    rw [List.map_cons, rulesF, read_line (h r (by simp))]
    simp only
    rw [if_neg (by omega), rulesF_lines l (i + 1) (out ++ [r]) (fun x hx => h x (by simp [hx])) (by omega)]
    simp
theorem rules_print {l : List Rl} {t : List UInt8} (h : printR l = (t, 0)) : rulesL t = (l, 0, 0) := by
  unfold printR at h
  split at h
  · simp at h
  · rename_i hn
    split at h
    · rename_i hr
      simp only [Prod.mk.injEq, and_true] at h
      subst h
      have hr := List.all_eq_true.1 hr
      have h1 : ∀ x ∈ l.map lineR, x.all seen = true := by
        intro x hx
        obtain ⟨r, hr1, rfl⟩ := List.mem_map.1 hx
        exact lineL_seen _ fun y hy => ((words_seen (hr r hr1)).1 y hy).1
      have h2 : ∀ x ∈ l.map lineR, x.length ≤ 325 := by
        intro x hx
        obtain ⟨r, hr1, rfl⟩ := List.mem_map.1 hx
        have hw := words_seen (hr r hr1)
        have := lineL_len (wordsR r) fun y hy => (hw.1 y hy).2.2
        have h5 := hw.2.2
        unfold lineR
        omega
      have h3 := textL_len _ 325 h2
      rw [List.length_map] at h3
      have h4 : (325 + 1) * l.length ≤ 326 * 64 := Nat.mul_le_mul_left _ (by omega)
      unfold rulesL
      rw [lines_text _ h1 (by omega)]
      simp only [if_true]
      rw [rulesF_lines l 0 [] hr (by omega)]
      rfl
    · simp at h
theorem rulesF_back : ∀ (ls : List (List UInt8)) (i : Nat) (out m : List Rl) (f : Int), rulesF i out ls = (m, 0, f) → i = out.length → (∀ r ∈ out, rightR r = true) → out.length ≤ 64 → f = 0 ∧ (∀ r ∈ m, rightR r = true) ∧ m.length ≤ 64 ∧ m.map lineR = out.map lineR ++ ls
  | [], i, out, m, f, h, hi, ho, hl => by
    simp [rulesF] at h
    obtain ⟨rfl, rfl⟩ := h
    exact ⟨rfl, ho, hl, by simp⟩
  | l :: ls, i, out, m, f, h, hi, ho, hl => by
    rw [rulesF] at h
    split at h
    · rename_i r e
      split at h
      · simp at h
      · rename_i hi2
        obtain ⟨h1, h2⟩ := line_read e
        have := rulesF_back ls (i + 1) (out ++ [r]) m f h (by simp; omega) (by
          intro x hx
          simp at hx
          rcases hx with hx | hx
          · exact ho x hx
          · rw [hx]; exact h1) (by simp; omega)
        refine ⟨this.1, this.2.1, this.2.2.1, ?_⟩
        rw [this.2.2.2]
        simp [h2]
    · simp at h
theorem print_rules {s : List UInt8} {m : List Rl} {f : Int} (h : rulesL s = (m, 0, f)) : printR m = (s, 0) ∧ f = 0 := by
  unfold rulesL at h
  split at h
  rename_i l e at_ hl
  split at h
  · rename_i he
    subst he
    obtain ⟨h1, h2, h3, h4⟩ := rulesF_back l 0 [] m f h rfl (by simp) (by simp)
    obtain ⟨h5, _⟩ := lines_back s l at_ hl
    unfold printR
    rw [if_neg (by omega), if_pos (List.all_eq_true.2 h2), h4]
    simp only [List.map_nil, List.nil_append, h5, h1, and_self]
  · rename_i he
    simp only [Prod.mk.injEq] at h
    exact absurd h.2.1 he
theorem rules_none {s : List UInt8} {m : List Rl} {e f : Int} (h : rulesL s = (m, e, f)) (he : e ≠ 0) : m = [] := by
  unfold rulesL at h
  split at h
  rename_i l e' at_ hl
  split at h
  · have : ∀ (ls : List (List UInt8)) (i : Nat) (out : List Rl), rulesF i out ls = (m, e, f) → m = [] := by
      intro ls
      induction ls with
      | nil => intro i out h; simp only [rulesF, Prod.mk.injEq] at h; exact absurd h.2.1.symm he
      | cons l ls ih =>
        intro i out h
        rw [rulesF] at h
        split at h
        · split at h
          · simp only [Prod.mk.injEq] at h; exact h.1.symm
          · exact ih _ _ h
        · simp only [Prod.mk.injEq] at h; exact h.1.symm
    exact this _ _ _ h
  · simp only [Prod.mk.injEq] at h; exact h.1.symm
end Go.Proofs.YtmlbfepibfobaaaDoor.Hand
end

section
namespace Go.Proofs.YtmlbfepibfobaaaDoor.Hand
/-! ### patterns -/
/-- A pattern matches a text: '*' any bytes, '?' any one. -/
inductive Mt : List UInt8 → List UInt8 → Prop
  | nil : Mt [] []
  | one (c x : UInt8) (p s : List UInt8) (h : c ≠ 42) (h2 : c = 63 ∨ c = x) (m : Mt p s) : Mt (c :: p) (x :: s)
  | none (p s : List UInt8) (m : Mt p s) : Mt (42 :: p) s
  | more (x : UInt8) (p s : List UInt8) (m : Mt (42 :: p) s) : Mt (42 :: p) (x :: s)
def mat : List UInt8 → List UInt8 → Bool
  | [], [] => true
  | [], _ :: _ => false
  | c :: p, [] => c == 42 && mat p []
  | c :: p, x :: s => if c = 42 then mat p (x :: s) || mat (c :: p) s else (c == 63 || c == x) && mat p s
theorem mat_iff (p s : List UInt8) : mat p s = true ↔ Mt p s := by
  constructor
  · intro h
    fun_induction mat p s with
    | case1 => exact .nil
    | case2 => cases h
    | case3 c p ih =>
      simp only [Bool.and_eq_true, beq_iff_eq] at h
      rw [h.1]
      exact .none _ _ (ih h.2)
    | case4 p x s ih1 ih2 =>
      simp only [Bool.or_eq_true] at h
      rcases h with h | h
      · exact .none _ _ (ih1 h)
      · exact .more _ _ _ (ih2 h)
    | case5 c p x s hc ih =>
      simp only [Bool.and_eq_true, Bool.or_eq_true, beq_iff_eq] at h
      exact .one _ _ _ _ hc h.1 (ih h.2)
  · intro h
    induction h with
    | nil => simp [mat]
    | one c x p s h h2 m ih => rw [mat, if_neg h, ih]; simpa using h2
    | none p s m ih => cases s with
      | nil => simp [mat, ih]
      | cons x s => simp [mat, ih]
    | more x p s m ih => simp [mat, ih]
theorem Mt.append {p s q t : List UInt8} (h : Mt p s) (h2 : Mt q t) : Mt (p ++ q) (s ++ t) := by
  induction h with
  | nil => exact h2
  | one c x p s h h3 m ih => exact .one _ _ _ _ h h3 ih
  | none p s m ih => exact .none _ _ ih
  | more x p s m ih => exact .more _ _ _ ih
theorem Mt.split {r s : List UInt8} (h : Mt r s) : ∀ p q, r = p ++ q → ∃ u v, s = u ++ v ∧ Mt p u ∧ Mt q v := by
  induction h with
  | nil => intro p q h; simp at h; rw [h.1, h.2]; exact ⟨[], [], rfl, .nil, .nil⟩
  | one c x p s h h3 m ih =>
    intro a q e
    cases a with
    | nil => exact ⟨[], x :: s, rfl, .nil, by rw [← (by simpa using e : c :: p = q)]; exact .one _ _ _ _ h h3 m⟩
    | cons y a =>
      simp at e
      obtain ⟨u, v, e2, h4, h5⟩ := ih a q e.2
      exact ⟨x :: u, v, by rw [e2]; rfl, by rw [← e.1]; exact .one _ _ _ _ h h3 h4, h5⟩
  | none p s m ih =>
    intro a q e
    cases a with
    | nil => exact ⟨[], s, rfl, .nil, by rw [← (by simpa using e : 42 :: p = q)]; exact .none _ _ m⟩
    | cons y a =>
      simp at e
      obtain ⟨u, v, e2, h4, h5⟩ := ih a q e.2
      exact ⟨u, v, e2, by rw [← e.1]; exact .none _ _ h4, h5⟩
  | more x p s m ih =>
    intro a q e
    cases a with
    | nil => exact ⟨[], x :: s, rfl, .nil, by rw [← (by simpa using e : 42 :: p = q)]; exact .more _ _ _ m⟩
    | cons y a =>
      obtain ⟨u, v, e2, h4, h5⟩ := ih (y :: a) q e
      simp at e
      rw [← e.1] at h4 ⊢
      exact ⟨x :: u, v, by rw [e2]; rfl, .more _ _ _ h4, h5⟩
theorem Mt.star (p s : List UInt8) : Mt (42 :: p) s ↔ ∃ u v, s = u ++ v ∧ Mt p v := by
  constructor
  · intro h
    obtain ⟨u, v, e, _, h2⟩ := h.split [42] p rfl
    exact ⟨u, v, e, h2⟩
  · rintro ⟨u, v, rfl, h⟩
    induction u with
    | nil => exact .none _ _ h
    | cons x u ih => exact .more _ _ _ ih
theorem Mt.stars {p : List UInt8} : Mt p [] ↔ ∀ c ∈ p, c = 42 := by
  constructor
  · intro h
    generalize e : ([] : List UInt8) = s at h
    induction h with
    | nil => simp
    | one => cases e
    | none p s m ih => intro c hc; simp at hc; rcases hc with h | h
                       · exact h
                       · exact ih e c h
    | more => cases e
  · intro h
    induction p with
    | nil => exact .nil
    | cons c p ih => rw [h c (by simp)]; exact .none _ _ (ih fun x hx => h x (by simp [hx]))
theorem Mt.cons {c : UInt8} {p s : List UInt8} (hc : c ≠ 42) : Mt (c :: p) s ↔ ∃ x t, s = x :: t ∧ (c = 63 ∨ c = x) ∧ Mt p t := by
  constructor
  · intro h
    cases h with
    | one _ x _ t _ h2 m => exact ⟨x, t, rfl, h2, m⟩
    | none => exact absurd rfl hc
    | more => exact absurd rfl hc
  · rintro ⟨x, t, rfl, h2, m⟩
    exact .one _ _ _ _ hc h2 m
/-- One byte of a pattern behind others: what a table's row says. -/
theorem Mt.snoc_star (p s : List UInt8) (k : Nat) (hk : k ≤ s.length) : Mt (p ++ [42]) (s.take k) ↔ Mt p (s.take k) ∨ (0 < k ∧ Mt (p ++ [42]) (s.take (k - 1))) := by
  constructor
  · intro h
    obtain ⟨u, v, e, h1, _⟩ := h.split p [42] rfl
    by_cases hv : v = []
    · left; rw [e, hv, List.append_nil]; exact h1
    · right
      have hl : u.length + v.length = k := by have := congrArg List.length e; simp at this; omega
      have hv0 : 0 < v.length := List.length_pos_iff.2 hv
      refine ⟨by omega, ?_⟩
      have e2 : s.take (k - 1) = u ++ v.take (v.length - 1) := by
        have : s.take (k - 1) = (s.take k).take (k - 1) := by rw [List.take_take]; congr 1; omega
        rw [this, e, List.take_append]
        have h0 : u.take (k - 1) = u := List.take_of_length_le (by omega)
        rw [h0]
        congr 2
        omega
      rw [e2]
      exact h1.append ((Mt.star [] _).2 ⟨v.take (v.length - 1), [], by simp, .nil⟩)
  · rintro (h | ⟨hk0, h⟩)
    · have := h.append (Mt.none [] [] .nil)
      simpa using this
    · obtain ⟨u, v, e, h1, _⟩ := h.split p [42] rfl
      have e2 : s.take k = u ++ (v ++ (s.drop (k - 1)).take 1) := by
        rw [← List.append_assoc, ← e]
        have : k = (k - 1) + 1 := by omega
        rw [this, List.take_add]
        simp
      rw [e2]
      exact h1.append ((Mt.star [] _).2 ⟨v ++ List.take 1 (List.drop (k - 1) s), [], by simp, .nil⟩)
theorem Mt.snoc_one (p s : List UInt8) (c : UInt8) (hc : c ≠ 42) (k : Nat) (hk : k ≤ s.length) : Mt (p ++ [c]) (s.take k) ↔ ∃ h : 0 < k, (c = 63 ∨ c = s[k - 1]'(by omega)) ∧ Mt p (s.take (k - 1)) := by
  have es : ∀ h : 0 < k, s.take k = s.take (k - 1) ++ [s[k - 1]'(by omega)] := by
    intro h
    obtain ⟨m, rfl⟩ : ∃ m, k = m + 1 := ⟨k - 1, by omega⟩
    rw [List.take_succ_eq_append_getElem (by omega)]
    simp
  constructor
  · intro h
    obtain ⟨u, v, e, h1, h2⟩ := h.split p [c] rfl
    obtain ⟨x, t, e2, h3, h4⟩ := (Mt.cons hc).1 h2
    cases h4
    subst e2
    have hl : u.length + 1 = k := by have := congrArg List.length e; simp at this; omega
    have hk0 : 0 < k := by omega
    rw [es hk0] at e
    have e3 := List.append_inj e (by simp; omega)
    refine ⟨hk0, ?_, by rw [e3.1]; exact h1⟩
    have := e3.2
    simp at this
    rw [this]
    exact h3
  · rintro ⟨hk0, h1, h2⟩
    rw [es hk0]
    exact h2.append (.one _ _ _ _ hc h1 .nil)

/-! ### the last star takes one more -/
/-- A pattern's head of j bytes, none a star, matches a text's first j bytes. -/
def litAt (p s : List UInt8) : Nat → Prop
  | 0 => True
  | j + 1 => litAt p s j ∧ ∃ c x, p[j]? = some c ∧ s[j]? = some x ∧ c ≠ 42 ∧ (c = 63 ∨ c = x)
theorem lit_mt : ∀ (j : Nat) (p s : List UInt8), litAt p s j → Mt (p.take j) (s.take j) ∧ j ≤ p.length ∧ j ≤ s.length
  | 0, p, s, _ => by simp; exact .nil
  | j + 1, p, s, h => by
    obtain ⟨h1, c, x, hp, hs, hc, hx⟩ := h
    obtain ⟨h2, h3, h4⟩ := lit_mt j p s h1
    obtain ⟨hp1, hp2⟩ := List.getElem?_eq_some_iff.1 hp
    obtain ⟨hs1, hs2⟩ := List.getElem?_eq_some_iff.1 hs
    rw [List.take_succ_eq_append_getElem hp1, List.take_succ_eq_append_getElem hs1, hp2, hs2]
    exact ⟨h2.append (.one _ _ _ _ hc hx .nil), by omega, by omega⟩
/-- What a head of j bytes without stars matches has j bytes. -/
theorem lit_len : ∀ (j : Nat) (p s t : List UInt8), litAt p s j → Mt (p.take j) t → t.length = j
  | 0, p, s, t, _, h => by simp at h; cases h; rfl
  | j + 1, p, s, t, hl, h => by
    obtain ⟨h1, c, x, hp, hs, hc, hx⟩ := hl
    obtain ⟨hp1, hp2⟩ := List.getElem?_eq_some_iff.1 hp
    rw [List.take_succ_eq_append_getElem hp1, hp2] at h
    obtain ⟨u, v, e, h2, h3⟩ := h.split _ _ rfl
    obtain ⟨y, t', e2, _, h4⟩ := (Mt.cons hc).1 h3
    cases h4
    have := lit_len j p s u h1 h2
    rw [e, e2]
    simp [this]
theorem lit_go {p s : List UInt8} {j : Nat} (h : litAt p s j) : Mt p s ↔ Mt (p.drop j) (s.drop j) := by
  obtain ⟨h1, h2, h3⟩ := lit_mt j p s h
  constructor
  · intro m
    obtain ⟨u, v, e, m1, m2⟩ := m.split (p.take j) (p.drop j) (by simp)
    have hl := lit_len j p s u h m1
    have : s.drop j = v := by rw [e, List.drop_append]; simp [hl]
    rw [this]
    exact m2
  · intro m
    have := h1.append m
    simpa using this

/-- Where the text has ended: what is left of the pattern must be stars. -/
theorem lit_end {p s : List UInt8} {j : Nat} (h : litAt p s j) (hs : s.length = j) : Mt (42 :: p) s ↔ ∀ c ∈ p.drop j, c = 42 := by
  rw [Mt.star, ← Mt.stars]
  have hd : s.drop j = [] := List.drop_of_length_le (by omega)
  constructor
  · rintro ⟨u, v, e, m⟩
    obtain ⟨a, b, e2, m1, m2⟩ := m.split (p.take j) (p.drop j) (by simp)
    have hl := lit_len j p s a h m1
    have hb : b = [] := by
      rw [e, e2] at hs
      simp at hs
      exact List.length_eq_zero_iff.1 (by omega)
    rw [hb] at m2
    exact m2
  · intro m
    refine ⟨[], s, rfl, (lit_go h).2 ?_⟩
    rw [hd]
    exact m
/-- A byte that does not fit: the star takes one more. -/
theorem lit_miss {p s : List UInt8} {j : Nat} (h : litAt p s j) (hj : j < s.length) (hn : ¬ Mt (p.drop j) (s.drop j)) : Mt (42 :: p) s ↔ Mt (42 :: p) (s.drop 1) := by
  cases s with
  | nil => simp at hj
  | cons x s =>
    constructor
    · intro m
      cases m with
      | one _ _ _ _ h => exact absurd rfl h
      | none _ _ m => exact absurd ((lit_go h).1 m) hn
      | more _ _ _ m => exact m
    · intro m
      exact .more _ _ _ m
/-- Another star: the last one alone counts. -/
theorem lit_star {p s : List UInt8} {j : Nat} (h : litAt p s j) (hs : p[j]? = some 42) : Mt (42 :: p) s ↔ Mt (p.drop j) (s.drop j) := by
  obtain ⟨hj, hj2⟩ := List.getElem?_eq_some_iff.1 hs
  have hd : p.drop j = 42 :: p.drop (j + 1) := by rw [List.drop_eq_getElem_cons hj, hj2]
  constructor
  · intro m
    obtain ⟨u, v, e, m⟩ := (Mt.star _ _).1 m
    obtain ⟨a, b, e2, m1, m2⟩ := m.split (p.take j) (p.drop j) (by simp)
    have hl := lit_len j p s a h m1
    rw [hd] at m2 ⊢
    obtain ⟨u2, v2, e3, m3⟩ := (Mt.star _ _).1 m2
    refine (Mt.star _ _).2 ⟨(u ++ a).drop j ++ u2, v2, ?_, m3⟩
    rw [e, e2, e3, ← List.append_assoc u, List.drop_append, show j - (u ++ a).length = 0 from by simp; omega]
    simp
  · intro m
    exact .none _ _ ((lit_go h).2 m)
theorem lit_succ {p s : List UInt8} {j : Nat} (h : litAt p s j) {c x : UInt8} (hp : p[j]? = some c) (hs : s[j]? = some x) (hc : c ≠ 42) (hx : c = 63 ∨ c = x) : litAt p s (j + 1) := ⟨h, c, x, hp, hs, hc, hx⟩
theorem mt_miss {p s : List UInt8} {x : UInt8} (hx : s[0]? = some x) (hp : ∀ c, p[0]? = some c → c ≠ 42 ∧ ¬ (c = 63 ∨ c = x)) : ¬ Mt p s := by
  intro m
  cases s with
  | nil => simp at hx
  | cons y s =>
    simp at hx
    subst hx
    cases p with
    | nil => cases m
    | cons c p =>
      obtain ⟨h1, h2⟩ := hp c rfl
      obtain ⟨z, t, e, h3, _⟩ := (Mt.cons h1).1 m
      simp at e
      rw [e.1] at h2
      exact h2 h3
end Go.Proofs.YtmlbfepibfobaaaDoor.Hand
end

section
namespace Go.Proofs.YtmlbfepibfobaaaDoor.Hand
open Go.RowKit Go.Proofs.YtmlbfepibfobaaaDoorW.PrintWords Go.Proofs.YtmlbfepibfobaaaDoorW.PrintLast Go.Proofs.YtmlbfepibfobaaaDoorW.PrintMore
set_option linter.unusedVariables false
set_option linter.unusedSimpArgs false

def lastI (s : ByteArray) (c : Int) (k : Nat) : Int := match lastAt s c k with | none => -1 | some i => (i : Int)
theorem lastIdx_at (s : ByteArray) (c : Int) : ∀ k, k ≤ s.size → Lib.lastIdx s c k = lastI s c k
  | 0, _ => rfl
  | k + 1, h => by
    have ih := lastIdx_at s c k (by omega)
    have e : ((s.data[k]!).toNat : Int) = bt s k := by
      rw [bt_nat s k (by omega)]
      have : s.data[k]! = s[k] := getElem!_pos s.data k (show k < s.data.size by exact (by omega : k < s.size))
      rw [this]
    unfold Lib.lastIdx lastI lastAt
    rw [e]
    by_cases h1 : bt s k = c
    · rw [if_pos h1, if_pos h1]
    · rw [if_neg h1, if_neg h1, ih]
      rfl
def strings_LastIndexByte.f (s : ByteArray) (c : Int) : Option Int := if s.size ≤ 4611686018427387903 then some (lastI s c s.size) else none
theorem strings_LastIndexByte.calls (a0 : ByteArray) (a1 : Int) (r : Int) (w : World) (h : strings_LastIndexByte.f a0 a1 = some r) :
    Calls Tryd.prog 123 #[.string a0, .int .u8 a1] w fun e w' => e = .returned (.int .i64 r) ∧ Drawn0 w w' := by
  unfold strings_LastIndexByte.f at h
  split at h
  · rename_i hs
    obtain rfl := Option.some.inj h
    refine (Tryd.strings_LastIndexByte a0 a1 (by omega) w).mono ?_
    rintro e w' ⟨he, rfl⟩
    refine ⟨?_, Drawn0.refl _⟩
    rw [he, Lib.lastIndexByte, lastIdx_at a0 a1 a0.size (Nat.le_refl _)]
  · cases h
end Go.Proofs.YtmlbfepibfobaaaDoor.Hand
end

section
-- Written by this session's program layer.py (the kit's print, turned), not by hand.
namespace Go.Proofs.YtmlbfepibfobaaaDoor.Q5
open Go.RowKit Go.Proofs.YtmlbfepibfobaaaDoorW.PrintWords Go.Proofs.YtmlbfepibfobaaaDoorW.PrintLast Go.Proofs.YtmlbfepibfobaaaDoorW.PrintMore Go.Proofs.YtmlbfepibfobaaaDoor.Hand
attribute [local go_sem] max2_int min2_int max_two min_two max_three min_three max_four min_four   -- for this text's walks alone
set_option linter.unusedVariables false
set_option linter.unusedSimpArgs false



def errW : Option Int → Value
  | none => .nilIface
  | some c => .iface 0 (.int .i64 c)
theorem errW_none : errW none = .nilIface := rfl
theorem errW_some (c : Int) : errW (some c) = .iface 0 (.int .i64 c) := rfl

theorem info5 : (Tryd.prog.info? 5).map (fun i => (i.zero, i.size, i.bytes)) = some (some (.int .u8 0), 1, 1) := by kernel_rfl
-- the values' own types

end Go.Proofs.YtmlbfepibfobaaaDoor.Q5
end
