import Derived.Test.YtmlbfepibfobaaaDoorRows
import Derived.ProofKit
import Derived.JoinedCond
import Derived.KernelRfl
import Derived.Test.YtmlbfepibfobaaaDoorProg
import Derived.Below
import Derived.Deep.Draws
import Derived.Deep.AppendLies
import Derived.Maps.AppendAt
import Derived.OwnWalk
import Derived.Laws.BytesArg
import Derived.Laws.MakeOwn
import Derived.Laws.OwnMore
import Derived.Deep.OwnRows
import Derived.Tactics
import Derived.Lib.ConvBytes
import Derived.Laws.Slices
import Derived.WalkKit
import Derived.RowKit3
import Derived.Deep.LoopGhost
import Derived.Deep.QuietTactic
import Derived.BigQuiet
import Derived.WideLaws
import Derived.Deep.DeepCutAuto
import Derived.Deep.CutBlock
import Derived.Deep.RegionHeld3
import Derived.Laws.Rows
import Derived.Lib.AppendStr
import Derived.ArgAppend
import Derived.Laws.IdiomCopy
import Derived.OrdersHeld
import Derived.Laws.BitsLemmas
import Derived.RowKit
import Derived.Test.YtmlbfepibfobaaaDoorWWords
import Derived.Test.YtmlbfepibfobaaaDoorWLast
import Derived.Test.YtmlbfepibfobaaaDoorWTab
import Derived.Test.YtmlbfepibfobaaaDoorWFour
import Derived.Test.YtmlbfepibfobaaaDoorWQPut
import Derived.Test.YtmlbfepibfobaaaDoorWApart
import Derived.Test.YtmlbfepibfobaaaDoorWArr
import Derived.Test.YtmlbfepibfobaaaDoorWZeros
import Derived.Test.YtmlbfepibfobaaaDoorWFoot
import Derived.Test.YtmlbfepibfobaaaDoorWKept
import Derived.Test.YtmlbfepibfobaaaDoorWShare
import Derived.Test.YtmlbfepibfobaaaDoorWN
import Derived.Test.YtmlbfepibfobaaaDoorWFootNe
import Derived.Test.YtmlbfepibfobaaaDoorWAt
import Derived.Test.YtmlbfepibfobaaaDoorWEqStruct
import Derived.Test.YtmlbfepibfobaaaDoorWRepsOne
import Derived.Test.YtmlbfepibfobaaaDoorWInv
import Derived.Test.YtmlbfepibfobaaaDoorWInvWords
import Derived.Test.YtmlbfepibfobaaaDoorWGuard
import Derived.Test.YtmlbfepibfobaaaDoorWNEv
import Derived.Test.YtmlbfepibfobaaaDoorWMore
import Derived.Test.YtmlbfepibfobaaaDoorMgRx0
import Derived.Test.YtmlbfepibfobaaaDoorMgRx3
import Derived.RangeFuncRecord
import Derived.OpenShut
import Derived.SliceStrings
import Derived.ChangeSame
import Derived.Lib.SmallJoins
import Derived.SizedLaws
section
/- What each row asks of the whole program, told once. -/
namespace Go.Proofs.YtmlbfepibfobaaaDoor.Hand
theorem seat_mayEnter : Tryd.prog.mayEnter = true := by kernel_rfl
theorem seat_lifts : Tryd.prog.liftsFinal = false := by kernel_rfl
theorem seat_make : Tryd.prog.make = some .cut := by kernel_rfl
end Go.Proofs.YtmlbfepibfobaaaDoor.Hand
end

section
-- Written by this session's program layer.py (the kit's print, turned), not by hand.
namespace Go.Proofs.YtmlbfepibfobaaaDoor.Q13
open Go.RowKit Go.Proofs.YtmlbfepibfobaaaDoorW.PrintWords Go.Proofs.YtmlbfepibfobaaaDoorW.PrintLast Go.Proofs.YtmlbfepibfobaaaDoorW.PrintMore
attribute [local go_sem] max2_int min2_int max_two min_two max_three min_three max_four min_four   -- for this text's walks alone
set_option linter.unusedVariables false
set_option linter.unusedSimpArgs false



def errW : Option Int → Value
  | none => .nilIface
  | some c => .iface 0 (.int .i64 c)
theorem errW_none : errW none = .nilIface := rfl
theorem errW_some (c : Int) : errW (some c) = .iface 0 (.int .i64 c) := rfl

-- the values' own types

end Go.Proofs.YtmlbfepibfobaaaDoor.Q13
end

section
-- Written by this session's program layer.py (the kit's print, turned), not by hand.
namespace Go.Proofs.YtmlbfepibfobaaaDoor.Q13
open Go.RowKit Go.Proofs.YtmlbfepibfobaaaDoorW.PrintWords Go.Proofs.YtmlbfepibfobaaaDoorW.PrintLast Go.Proofs.YtmlbfepibfobaaaDoorW.PrintMore
attribute [local go_sem] max2_int min2_int max_two min_two max_three min_three max_four min_four   -- for this text's walks alone
set_option linter.unusedVariables false
set_option linter.unusedSimpArgs false

/-! ### secateurref04_letter: function 134 -/
def secateurref04_letter.f (a0 : Int) : Option (Bool) := if a0 ≥ 65 then (if a0 ≤ 90 then (some true) else (if a0 ≥ 97 then (if a0 ≤ 122 then (some true) else (if a0 ≥ 48 then (if a0 ≤ 57 then (some true) else (if a0 = 95 then (some true) else (some (a0 == 36)))) else (if a0 = 95 then (some true) else (some (a0 == 36))))) else (if a0 ≥ 48 then (if a0 ≤ 57 then (some true) else (if a0 = 95 then (some true) else (some (a0 == 36)))) else (if a0 = 95 then (some true) else (some (a0 == 36)))))) else (if a0 ≥ 97 then (if a0 ≤ 122 then (some true) else (if a0 ≥ 48 then (if a0 ≤ 57 then (some true) else (if a0 = 95 then (some true) else (some (a0 == 36)))) else (if a0 = 95 then (some true) else (some (a0 == 36))))) else (if a0 ≥ 48 then (if a0 ≤ 57 then (some true) else (if a0 = 95 then (some true) else (some (a0 == 36)))) else (if a0 = 95 then (some true) else (some (a0 == 36)))))
set_option maxHeartbeats 8000000 in
set_option maxRecDepth 100000 in
theorem secateurref04_letter.calls (a0 : Int) (r : Bool) (w : World) (h : secateurref04_letter.f a0 = some r) :
    Calls Tryd.prog 134 #[.int .u8 a0] w fun e w' => e = .returned (.bool r) ∧ Drawn0 w w' := by
  have H : (if a0 ≥ 65 then (if a0 ≤ 90 then (some true) else (if a0 ≥ 97 then (if a0 ≤ 122 then (some true) else (if a0 ≥ 48 then (if a0 ≤ 57 then (some true) else (if a0 = 95 then (some true) else (some (a0 == 36)))) else (if a0 = 95 then (some true) else (some (a0 == 36))))) else (if a0 ≥ 48 then (if a0 ≤ 57 then (some true) else (if a0 = 95 then (some true) else (some (a0 == 36)))) else (if a0 = 95 then (some true) else (some (a0 == 36)))))) else (if a0 ≥ 97 then (if a0 ≤ 122 then (some true) else (if a0 ≥ 48 then (if a0 ≤ 57 then (some true) else (if a0 = 95 then (some true) else (some (a0 == 36)))) else (if a0 = 95 then (some true) else (some (a0 == 36))))) else (if a0 ≥ 48 then (if a0 ≤ 57 then (some true) else (if a0 = 95 then (some true) else (some (a0 == 36)))) else (if a0 = 95 then (some true) else (some (a0 == 36)))))) = some r := h
  clear h
  by_cases c2 : a0 ≥ 65
  · rw [if_pos c2] at H
    have c2b0 : decide (65 ≤ a0) = true := decide_eq_true c2
    clear c2
    by_cases c3 : a0 ≤ 90
    · rw [if_pos c3] at H
      have c3b0 : decide (a0 ≤ 90) = true := decide_eq_true c3
      clear c3
      obtain rfl := Option.some.inj H
      go_enter Tryd.func134, Tryd.ntmps134
      go_wp2
      go_ret
      exact ⟨by first | rfl | (simp; done) | (simp [*]; done), by repeat (first | exact Drawn0.refl _ | apply Drawn0.step)⟩
    · rw [if_neg c3] at H
      have c3b0 : decide (a0 ≤ 90) = false := decide_eq_false c3
      clear c3
      by_cases c4 : a0 ≥ 97
      · rw [if_pos c4] at H
        have c4b0 : decide (97 ≤ a0) = true := decide_eq_true c4
        clear c4
        by_cases c5 : a0 ≤ 122
        · rw [if_pos c5] at H
          have c5b0 : decide (a0 ≤ 122) = true := decide_eq_true c5
          clear c5
          obtain rfl := Option.some.inj H
          go_enter Tryd.func134, Tryd.ntmps134
          go_wp2
          go_ret
          exact ⟨by first | rfl | (simp; done) | (simp [*]; done), by repeat (first | exact Drawn0.refl _ | apply Drawn0.step)⟩
        · rw [if_neg c5] at H
          have c5b0 : decide (a0 ≤ 122) = false := decide_eq_false c5
          clear c5
          by_cases c6 : a0 ≥ 48
          · rw [if_pos c6] at H
            have c6b0 : decide (48 ≤ a0) = true := decide_eq_true c6
            clear c6
            by_cases c7 : a0 ≤ 57
            · rw [if_pos c7] at H
              have c7b0 : decide (a0 ≤ 57) = true := decide_eq_true c7
              clear c7
              obtain rfl := Option.some.inj H
              go_enter Tryd.func134, Tryd.ntmps134
              go_wp2
              go_ret
              exact ⟨by first | rfl | (simp; done) | (simp [*]; done), by repeat (first | exact Drawn0.refl _ | apply Drawn0.step)⟩
            · rw [if_neg c7] at H
              have c7b0 : decide (a0 ≤ 57) = false := decide_eq_false c7
              clear c7
              by_cases c8 : a0 = 95
              · rw [if_pos c8] at H
                have c8b0 : (a0 == 95) = true := beq_iff_eq.mpr c8
                have c8b1 : (a0 != 95) = false := bne_eq_false_iff_eq.mpr c8
                clear c8
                obtain rfl := Option.some.inj H
                go_enter Tryd.func134, Tryd.ntmps134
                go_wp2
                go_ret
                exact ⟨by first | rfl | (simp; done) | (simp [*]; done), by repeat (first | exact Drawn0.refl _ | apply Drawn0.step)⟩
              · rw [if_neg c8] at H
                have c8b0 : (a0 == 95) = false := beq_eq_false_iff_ne.mpr c8
                have c8b1 : (a0 != 95) = true := bne_iff_ne.mpr c8
                obtain rfl := Option.some.inj H
                go_enter Tryd.func134, Tryd.ntmps134
                go_wp2
                go_ret
                exact ⟨by first | rfl | (simp; done) | (simp [*]; done), by repeat (first | exact Drawn0.refl _ | apply Drawn0.step)⟩
          · rw [if_neg c6] at H
            have c6b0 : decide (48 ≤ a0) = false := decide_eq_false c6
            clear c6
            by_cases c9 : a0 = 95
            · rw [if_pos c9] at H
              have c9b0 : (a0 == 95) = true := beq_iff_eq.mpr c9
              have c9b1 : (a0 != 95) = false := bne_eq_false_iff_eq.mpr c9
              clear c9
              obtain rfl := Option.some.inj H
              go_enter Tryd.func134, Tryd.ntmps134
              go_wp2
              go_ret
              exact ⟨by first | rfl | (simp; done) | (simp [*]; done), by repeat (first | exact Drawn0.refl _ | apply Drawn0.step)⟩
            · rw [if_neg c9] at H
              have c9b0 : (a0 == 95) = false := beq_eq_false_iff_ne.mpr c9
              have c9b1 : (a0 != 95) = true := bne_iff_ne.mpr c9
              obtain rfl := Option.some.inj H
              go_enter Tryd.func134, Tryd.ntmps134
              go_wp2
              go_ret
              exact ⟨by first | rfl | (simp; done) | (simp [*]; done), by repeat (first | exact Drawn0.refl _ | apply Drawn0.step)⟩
      · rw [if_neg c4] at H
        have c4b0 : decide (97 ≤ a0) = false := decide_eq_false c4
        clear c4
        by_cases c10 : a0 ≥ 48
        · rw [if_pos c10] at H
          have c10b0 : decide (48 ≤ a0) = true := decide_eq_true c10
          clear c10
          by_cases c11 : a0 ≤ 57
          · rw [if_pos c11] at H
            have c11b0 : decide (a0 ≤ 57) = true := decide_eq_true c11
            clear c11
            obtain rfl := Option.some.inj H
            go_enter Tryd.func134, Tryd.ntmps134
            go_wp2
            go_ret
            exact ⟨by first | rfl | (simp; done) | (simp [*]; done), by repeat (first | exact Drawn0.refl _ | apply Drawn0.step)⟩
          · rw [if_neg c11] at H
            have c11b0 : decide (a0 ≤ 57) = false := decide_eq_false c11
            clear c11
            by_cases c12 : a0 = 95
            · rw [if_pos c12] at H
              have c12b0 : (a0 == 95) = true := beq_iff_eq.mpr c12
              have c12b1 : (a0 != 95) = false := bne_eq_false_iff_eq.mpr c12
              clear c12
              obtain rfl := Option.some.inj H
              go_enter Tryd.func134, Tryd.ntmps134
              go_wp2
              go_ret
              exact ⟨by first | rfl | (simp; done) | (simp [*]; done), by repeat (first | exact Drawn0.refl _ | apply Drawn0.step)⟩
            · rw [if_neg c12] at H
              have c12b0 : (a0 == 95) = false := beq_eq_false_iff_ne.mpr c12
              have c12b1 : (a0 != 95) = true := bne_iff_ne.mpr c12
              obtain rfl := Option.some.inj H
              go_enter Tryd.func134, Tryd.ntmps134
              go_wp2
              go_ret
              exact ⟨by first | rfl | (simp; done) | (simp [*]; done), by repeat (first | exact Drawn0.refl _ | apply Drawn0.step)⟩
        · rw [if_neg c10] at H
          have c10b0 : decide (48 ≤ a0) = false := decide_eq_false c10
          clear c10
          by_cases c13 : a0 = 95
          · rw [if_pos c13] at H
            have c13b0 : (a0 == 95) = true := beq_iff_eq.mpr c13
            have c13b1 : (a0 != 95) = false := bne_eq_false_iff_eq.mpr c13
            clear c13
            obtain rfl := Option.some.inj H
            go_enter Tryd.func134, Tryd.ntmps134
            go_wp2
            go_ret
            exact ⟨by first | rfl | (simp; done) | (simp [*]; done), by repeat (first | exact Drawn0.refl _ | apply Drawn0.step)⟩
          · rw [if_neg c13] at H
            have c13b0 : (a0 == 95) = false := beq_eq_false_iff_ne.mpr c13
            have c13b1 : (a0 != 95) = true := bne_iff_ne.mpr c13
            obtain rfl := Option.some.inj H
            go_enter Tryd.func134, Tryd.ntmps134
            go_wp2
            go_ret
            exact ⟨by first | rfl | (simp; done) | (simp [*]; done), by repeat (first | exact Drawn0.refl _ | apply Drawn0.step)⟩
  · rw [if_neg c2] at H
    have c2b0 : decide (65 ≤ a0) = false := decide_eq_false c2
    clear c2
    by_cases c14 : a0 ≥ 97
    · rw [if_pos c14] at H
      have c14b0 : decide (97 ≤ a0) = true := decide_eq_true c14
      clear c14
      by_cases c15 : a0 ≤ 122
      · rw [if_pos c15] at H
        have c15b0 : decide (a0 ≤ 122) = true := decide_eq_true c15
        clear c15
        obtain rfl := Option.some.inj H
        go_enter Tryd.func134, Tryd.ntmps134
        go_wp2
        go_ret
        exact ⟨by first | rfl | (simp; done) | (simp [*]; done), by repeat (first | exact Drawn0.refl _ | apply Drawn0.step)⟩
      · rw [if_neg c15] at H
        have c15b0 : decide (a0 ≤ 122) = false := decide_eq_false c15
        clear c15
        by_cases c16 : a0 ≥ 48
        · rw [if_pos c16] at H
          have c16b0 : decide (48 ≤ a0) = true := decide_eq_true c16
          clear c16
          by_cases c17 : a0 ≤ 57
          · rw [if_pos c17] at H
            have c17b0 : decide (a0 ≤ 57) = true := decide_eq_true c17
            clear c17
            obtain rfl := Option.some.inj H
            go_enter Tryd.func134, Tryd.ntmps134
            go_wp2
            go_ret
            exact ⟨by first | rfl | (simp; done) | (simp [*]; done), by repeat (first | exact Drawn0.refl _ | apply Drawn0.step)⟩
          · rw [if_neg c17] at H
            have c17b0 : decide (a0 ≤ 57) = false := decide_eq_false c17
            clear c17
            by_cases c18 : a0 = 95
            · rw [if_pos c18] at H
              have c18b0 : (a0 == 95) = true := beq_iff_eq.mpr c18
              have c18b1 : (a0 != 95) = false := bne_eq_false_iff_eq.mpr c18
              clear c18
              obtain rfl := Option.some.inj H
              go_enter Tryd.func134, Tryd.ntmps134
              go_wp2
              go_ret
              exact ⟨by first | rfl | (simp; done) | (simp [*]; done), by repeat (first | exact Drawn0.refl _ | apply Drawn0.step)⟩
            · rw [if_neg c18] at H
              have c18b0 : (a0 == 95) = false := beq_eq_false_iff_ne.mpr c18
              have c18b1 : (a0 != 95) = true := bne_iff_ne.mpr c18
              obtain rfl := Option.some.inj H
              go_enter Tryd.func134, Tryd.ntmps134
              go_wp2
              go_ret
              exact ⟨by first | rfl | (simp; done) | (simp [*]; done), by repeat (first | exact Drawn0.refl _ | apply Drawn0.step)⟩
        · rw [if_neg c16] at H
          have c16b0 : decide (48 ≤ a0) = false := decide_eq_false c16
          clear c16
          by_cases c19 : a0 = 95
          · rw [if_pos c19] at H
            have c19b0 : (a0 == 95) = true := beq_iff_eq.mpr c19
            have c19b1 : (a0 != 95) = false := bne_eq_false_iff_eq.mpr c19
            clear c19
            obtain rfl := Option.some.inj H
            go_enter Tryd.func134, Tryd.ntmps134
            go_wp2
            go_ret
            exact ⟨by first | rfl | (simp; done) | (simp [*]; done), by repeat (first | exact Drawn0.refl _ | apply Drawn0.step)⟩
          · rw [if_neg c19] at H
            have c19b0 : (a0 == 95) = false := beq_eq_false_iff_ne.mpr c19
            have c19b1 : (a0 != 95) = true := bne_iff_ne.mpr c19
            obtain rfl := Option.some.inj H
            go_enter Tryd.func134, Tryd.ntmps134
            go_wp2
            go_ret
            exact ⟨by first | rfl | (simp; done) | (simp [*]; done), by repeat (first | exact Drawn0.refl _ | apply Drawn0.step)⟩
    · rw [if_neg c14] at H
      have c14b0 : decide (97 ≤ a0) = false := decide_eq_false c14
      clear c14
      by_cases c20 : a0 ≥ 48
      · rw [if_pos c20] at H
        have c20b0 : decide (48 ≤ a0) = true := decide_eq_true c20
        clear c20
        by_cases c21 : a0 ≤ 57
        · rw [if_pos c21] at H
          have c21b0 : decide (a0 ≤ 57) = true := decide_eq_true c21
          clear c21
          obtain rfl := Option.some.inj H
          go_enter Tryd.func134, Tryd.ntmps134
          go_wp2
          go_ret
          exact ⟨by first | rfl | (simp; done) | (simp [*]; done), by repeat (first | exact Drawn0.refl _ | apply Drawn0.step)⟩
        · rw [if_neg c21] at H
          have c21b0 : decide (a0 ≤ 57) = false := decide_eq_false c21
          clear c21
          by_cases c22 : a0 = 95
          · rw [if_pos c22] at H
            have c22b0 : (a0 == 95) = true := beq_iff_eq.mpr c22
            have c22b1 : (a0 != 95) = false := bne_eq_false_iff_eq.mpr c22
            clear c22
            obtain rfl := Option.some.inj H
            go_enter Tryd.func134, Tryd.ntmps134
            go_wp2
            go_ret
            exact ⟨by first | rfl | (simp; done) | (simp [*]; done), by repeat (first | exact Drawn0.refl _ | apply Drawn0.step)⟩
          · rw [if_neg c22] at H
            have c22b0 : (a0 == 95) = false := beq_eq_false_iff_ne.mpr c22
            have c22b1 : (a0 != 95) = true := bne_iff_ne.mpr c22
            obtain rfl := Option.some.inj H
            go_enter Tryd.func134, Tryd.ntmps134
            go_wp2
            go_ret
            exact ⟨by first | rfl | (simp; done) | (simp [*]; done), by repeat (first | exact Drawn0.refl _ | apply Drawn0.step)⟩
      · rw [if_neg c20] at H
        have c20b0 : decide (48 ≤ a0) = false := decide_eq_false c20
        clear c20
        by_cases c23 : a0 = 95
        · rw [if_pos c23] at H
          have c23b0 : (a0 == 95) = true := beq_iff_eq.mpr c23
          have c23b1 : (a0 != 95) = false := bne_eq_false_iff_eq.mpr c23
          clear c23
          obtain rfl := Option.some.inj H
          go_enter Tryd.func134, Tryd.ntmps134
          go_wp2
          go_ret
          exact ⟨by first | rfl | (simp; done) | (simp [*]; done), by repeat (first | exact Drawn0.refl _ | apply Drawn0.step)⟩
        · rw [if_neg c23] at H
          have c23b0 : (a0 == 95) = false := beq_eq_false_iff_ne.mpr c23
          have c23b1 : (a0 != 95) = true := bne_iff_ne.mpr c23
          obtain rfl := Option.some.inj H
          go_enter Tryd.func134, Tryd.ntmps134
          go_wp2
          go_ret
          exact ⟨by first | rfl | (simp; done) | (simp [*]; done), by repeat (first | exact Drawn0.refl _ | apply Drawn0.step)⟩

/-! ### secateurref04_all: function 111 -/
mutual
def secateurref04_all.j0 : Nat → ByteArray → Int → Bool → Option (Bool)
  | 0, _, _, _ => none
  | k + 1, x0, x1, x13 => if x13 = true then (some false) else (secateurref04_all.l0 k x0 x1 0)
def secateurref04_all.l0 : Nat → ByteArray → Int → Int → Option (Bool)
  | 0, _, _, _ => none
  | k + 1, x0, x1, x5 => if x5 < (x0.size : Int) then (if 0 ≤ x5 then ((secateurref04_letter.f (bt x0 x5)).bind fun t101 => (if t101 = true then (secateurref04_all.l0 k x0 x1 (wrap64 (x5 + 1))) else (if (bt x0 x5) = x1 then (secateurref04_all.l0 k x0 x1 (wrap64 (x5 + 1))) else (some false)))) else (none)) else (some true)
end
def secateurref04_all.f (k : Nat) (a0 : ByteArray) (a1 : Int) : Option (Bool) := if (a0.size : Int) < 1 then (secateurref04_all.j0 k a0 a1 true) else (secateurref04_all.j0 k a0 a1 (decide ((a0.size : Int) > 32)))
theorem secateurref04_all.mono_l : ∀ k, (∀ y0 y1 y2, LeO (secateurref04_all.j0 k y0 y1 y2) (secateurref04_all.j0 (k + 1) y0 y1 y2)) ∧ (∀ y0 y1 y2, LeO (secateurref04_all.l0 k y0 y1 y2) (secateurref04_all.l0 (k + 1) y0 y1 y2))
  | 0 => ⟨fun _ _ _ r h => by simp [secateurref04_all.j0] at h, fun _ _ _ r h => by simp [secateurref04_all.l0] at h⟩
  | k + 1 => by
    obtain ⟨ih0, ih1⟩ := secateurref04_all.mono_l k
    refine ⟨?_, ?_⟩
    · intro y0 y1 y2
      unfold secateurref04_all.j0
      repeat' first
      | (with_reducible exact ih0 _ _ _)
      | (with_reducible exact ih1 _ _ _)
      | (with_reducible exact LeO.refl _)
      | (with_reducible exact LeO.none _)
      | (with_reducible refine LeO.ite ?_ ?_)
      | (with_reducible refine LeO.bind ?_ (fun _ => ?_))
      | exact ih0 _ _ _
      | exact ih1 _ _ _
      | exact LeO.none _
      | refine LeO.ite ?_ ?_
      | refine LeO.bind ?_ (fun _ => ?_)
    · intro y0 y1 y2
      unfold secateurref04_all.l0
      repeat' first
      | (with_reducible exact ih0 _ _ _)
      | (with_reducible exact ih1 _ _ _)
      | (with_reducible exact LeO.refl _)
      | (with_reducible exact LeO.none _)
      | (with_reducible refine LeO.ite ?_ ?_)
      | (with_reducible refine LeO.bind ?_ (fun _ => ?_))
      | exact ih0 _ _ _
      | exact ih1 _ _ _
      | exact LeO.none _
      | refine LeO.ite ?_ ?_
      | refine LeO.bind ?_ (fun _ => ?_)
theorem secateurref04_all.mono : ∀ a0 a1 k, LeO (secateurref04_all.f k a0 a1) (secateurref04_all.f (k + 1) a0 a1) := by
  intro a0 a1 k
  obtain ⟨ih0, ih1⟩ := secateurref04_all.mono_l k
  unfold secateurref04_all.f
  repeat' first
      | (with_reducible exact ih0 _ _ _)
      | (with_reducible exact ih1 _ _ _)
      | (with_reducible exact LeO.refl _)
      | (with_reducible exact LeO.none _)
      | (with_reducible refine LeO.ite ?_ ?_)
      | (with_reducible refine LeO.bind ?_ (fun _ => ?_))
      | exact ih0 _ _ _
      | exact ih1 _ _ _
      | exact LeO.none _
      | refine LeO.ite ?_ ?_
      | refine LeO.bind ?_ (fun _ => ?_)
set_option maxHeartbeats 8000000 in
set_option maxRecDepth 100000 in
theorem secateurref04_all.calls (k : Nat) (a0 : ByteArray) (a1 : Int) (r : Bool) (w : World) (h : secateurref04_all.f k a0 a1 = some r) :
    Calls Tryd.prog 111 #[.string a0, .int .u8 a1] w fun e w' => e = .returned (.bool r) ∧ Drawn0 w w' := by
  have H : (if (a0.size : Int) < 1 then (secateurref04_all.j0 k a0 a1 true) else (secateurref04_all.j0 k a0 a1 (decide ((a0.size : Int) > 32)))) = some r := h
  clear h
  have HC3 := Aside0.mk H
  clear H
  go_enter Tryd.func111, Tryd.ntmps111
  go_upto_region 1 with (fail)
  go_cut [13] (fun v13 wc => ∃ (kq : Nat) (x13_2 : Bool), v13 = .bool x13_2 ∧ Aside0 (secateurref04_all.j0 kq a0 a1 x13_2 = some r) ∧ Aside0 (kq ≤ k) ∧ Drawn0 w wc)
  case first =>
    have H := HC3.out
    clear HC3
    by_cases c4 : (a0.size : Int) < 1
    · rw [if_pos c4] at H
      have c4b0 : decide ((a0.size : Int) < 1) = true := decide_eq_true c4
      have c4b1 : decide (a0.size < 1) = true := decide_eq_true (by omega)
      clear c4
      (first | rw [c4b0] | rw [c4b1] | (simp only [i64_w, i32_w]; rw [c4b0]) | skip)
      have H' := Aside0.mk H
      clear H
      go_wp2
      go_meet
      case rel => exact ⟨_, (true), (by first | rfl | (simp; done) | (simp [*]; done)), H', ⟨by first | omega | exact Nat.le_refl _⟩, by repeat (first | exact Drawn0.refl _ | apply Drawn0.step)⟩
    · rw [if_neg c4] at H
      have c4b0 : decide ((a0.size : Int) < 1) = false := decide_eq_false c4
      have c4b1 : decide (a0.size < 1) = false := decide_eq_false (by omega)
      clear c4
      (first | rw [c4b0] | rw [c4b1] | (simp only [i64_w, i32_w]; rw [c4b0]) | skip)
      have H' := Aside0.mk H
      clear H
      go_wp2
      go_meet
      case rel => exact ⟨_, (decide ((a0.size : Int) > 32)), (by first | rfl | (simp; done) | (simp [*]; done)), H', ⟨by first | omega | exact Nat.le_refl _⟩, by repeat (first | exact Drawn0.refl _ | apply Drawn0.step)⟩
  case rest =>
    clear HC3
    try clear c1
    try clear p2
    try clear c4
    try clear c4b0
    try clear c4b1
    obtain ⟨kq, x13_2, rfl, HA, HJ2, ⟨mc2, rfl⟩⟩ := hcut
    cases kq with
    | zero => exact absurd HA.out (by simp [secateurref04_all.j0])
    | succ kj2 =>
      have H := HA.out
      clear HA
      simp only [secateurref04_all.j0] at H
      by_cases c5 : x13_2 = true
      · subst c5
        have H1 : (some false) = some r := by rw [if_pos rfl] at H; exact H
        clear H
        have H := H1
        clear H1
        obtain rfl := Option.some.inj H
        go_wp2
        go_ret
        exact ⟨by first | rfl | (simp; done) | (simp [*]; done), by repeat (first | exact Drawn0.refl _ | apply Drawn0.step)⟩
      · replace c5 := Bool.eq_false_iff.mpr c5
        subst c5
        have H1 : (secateurref04_all.l0 kj2 a0 a1 0) = some r := by rw [if_neg (show ¬ (false = true) by decide)] at H; exact H
        clear H
        have H := H1
        clear H1
        have H' := Aside0.mk H
        clear H
        go_wp2
        go_loopg [5] kj2 (fun kq v5 w' => ∃ (x5_2 : Int), v5 = .int .i64 x5_2 ∧ Aside0 (secateurref04_all.l0 kq a0 a1 x5_2 = some r) ∧ Aside0 (kq ≤ kj2) ∧ Drawn0 w w')
        case atStart => exact ⟨(0), (by first | rfl | (simp; done) | (simp [*]; done)), H', ⟨Nat.le_refl _⟩, by repeat (first | exact Drawn0.refl _ | apply Drawn0.step)⟩
        case round =>
          clear H'
          try clear c1
          try clear c2
          try clear p2
          try clear c4
          try clear c4b0
          try clear c4b1
          try clear c5
          try clear p2
          obtain ⟨x5_2, rfl, HA, HK2, ⟨m2, rfl⟩⟩ := hrel
          cases gk with
          | zero => exact absurd HA.out (by simp [secateurref04_all.l0])
          | succ k2 =>
            have H := HA.out
            clear HA
            simp only [secateurref04_all.l0] at H
            by_cases c6 : x5_2 < (a0.size : Int)
            · rw [if_pos c6] at H
              have c6b0 : decide (x5_2 < (a0.size : Int)) = true := decide_eq_true c6
              clear c6
              by_cases c7 : 0 ≤ x5_2
              · rw [if_pos c7] at H
                have c7b0 : decide (0 ≤ x5_2) = true := decide_eq_true c7
                clear c7
                replace H := Option.bind_eq_some_iff.mp H
                obtain ⟨t101, A90, H⟩ := H
                replace H : (if t101 = true then (secateurref04_all.l0 k2 a0 a1 (wrap64 (x5_2 + 1))) else (if (bt a0 x5_2) = a1 then (secateurref04_all.l0 k2 a0 a1 (wrap64 (x5_2 + 1))) else (some false))) = some r := H
                have A9 := Aside0.mk A90
                clear A90
                by_cases c10 : t101 = true
                · subst c10
                  have H1 : (secateurref04_all.l0 k2 a0 a1 (wrap64 (x5_2 + 1))) = some r := by rw [if_pos rfl] at H; exact H
                  clear H
                  have H := H1
                  clear H1
                  have H' := Aside0.mk H
                  clear H
                  have p8 : 0 ≤ (x5_2 : Int) := of_decide_eq_true (by first | (with_reducible assumption) | assumption)
                  have q8 : x5_2 < (a0.size : Int) := of_decide_eq_true (by first | (with_reducible assumption) | assumption)
                  have hx8 := bt_at a0 x5_2
                  replace p8 := eq_true p8
                  replace q8 := eq_true q8
                  go_wp2_with (first | ((with_reducible refine gate_callee (f := 134) rfl ?_); refine goesL_ (some 23) rfl rfl Tryd.func134 (by kernel_rfl) rfl #[.int .u8 (bt a0 x5_2)] rfl (by (try simp only [List.map_toArray, List.map_cons, List.map_nil]); first | done | rfl | (simp only [List.length_drop, List.length_take]; rfl)) ?_; (with_reducible refine (secateurref04_letter.calls (bt a0 x5_2) true _ A9.out).mono ?_); rintro e w' ⟨rfl, ⟨nd, rfl⟩⟩; refine ⟨_, rfl, ?_⟩))
                  go_roundg k2
                  case measure => have := HJ2.out; have := HK2.out; omega
                  case rel => exact ⟨(wrap64 (x5_2 + 1)), (by first | rfl | (simp; done) | (simp [*]; done)), H', ⟨by have := HJ2.out; have := HK2.out; omega⟩, by repeat (first | exact Drawn0.refl _ | apply Drawn0.step)⟩
                · replace c10 := Bool.eq_false_iff.mpr c10
                  subst c10
                  have H1 : (if (bt a0 x5_2) = a1 then (secateurref04_all.l0 k2 a0 a1 (wrap64 (x5_2 + 1))) else (some false)) = some r := by rw [if_neg (show ¬ (false = true) by decide)] at H; exact H
                  clear H
                  have H := H1
                  clear H1
                  by_cases c12 : (bt a0 x5_2) = a1
                  · rw [if_pos c12] at H
                    have c12b0 : ((bt a0 x5_2) == a1) = true := beq_iff_eq.mpr c12
                    have c12b1 : ((bt a0 x5_2) != a1) = false := bne_eq_false_iff_eq.mpr c12
                    clear c12
                    have H' := Aside0.mk H
                    clear H
                    have p8 : 0 ≤ (x5_2 : Int) := of_decide_eq_true (by first | (with_reducible assumption) | assumption)
                    have q8 : x5_2 < (a0.size : Int) := of_decide_eq_true (by first | (with_reducible assumption) | assumption)
                    have hx8 := bt_at a0 x5_2
                    replace p8 := eq_true p8
                    replace q8 := eq_true q8
                    go_wp2_with (first | ((with_reducible refine gate_callee (f := 134) rfl ?_); refine goesL_ (some 23) rfl rfl Tryd.func134 (by kernel_rfl) rfl #[.int .u8 (bt a0 x5_2)] rfl (by (try simp only [List.map_toArray, List.map_cons, List.map_nil]); first | done | rfl | (simp only [List.length_drop, List.length_take]; rfl)) ?_; (with_reducible refine (secateurref04_letter.calls (bt a0 x5_2) false _ A9.out).mono ?_); rintro e w' ⟨rfl, ⟨nd, rfl⟩⟩; refine ⟨_, rfl, ?_⟩; have p11 : 0 ≤ (x5_2 : Int) := of_decide_eq_true (by first | (with_reducible assumption) | assumption); have q11 : x5_2 < (a0.size : Int) := of_decide_eq_true (by first | (with_reducible assumption) | assumption); have hx11 := bt_at a0 x5_2; replace p11 := eq_true p11; replace q11 := eq_true q11))
                    go_roundg k2
                    case measure => have := HJ2.out; have := HK2.out; omega
                    case rel => exact ⟨(wrap64 (x5_2 + 1)), (by first | rfl | (simp; done) | (simp [*]; done)), H', ⟨by have := HJ2.out; have := HK2.out; omega⟩, by repeat (first | exact Drawn0.refl _ | apply Drawn0.step)⟩
                  · rw [if_neg c12] at H
                    have c12b0 : ((bt a0 x5_2) == a1) = false := beq_eq_false_iff_ne.mpr c12
                    have c12b1 : ((bt a0 x5_2) != a1) = true := bne_iff_ne.mpr c12
                    obtain rfl := Option.some.inj H
                    have p8 : 0 ≤ (x5_2 : Int) := of_decide_eq_true (by first | (with_reducible assumption) | assumption)
                    have q8 : x5_2 < (a0.size : Int) := of_decide_eq_true (by first | (with_reducible assumption) | assumption)
                    have hx8 := bt_at a0 x5_2
                    replace p8 := eq_true p8
                    replace q8 := eq_true q8
                    go_wp2_with (first | ((with_reducible refine gate_callee (f := 134) rfl ?_); refine goesL_ (some 23) rfl rfl Tryd.func134 (by kernel_rfl) rfl #[.int .u8 (bt a0 x5_2)] rfl (by (try simp only [List.map_toArray, List.map_cons, List.map_nil]); first | done | rfl | (simp only [List.length_drop, List.length_take]; rfl)) ?_; (with_reducible refine (secateurref04_letter.calls (bt a0 x5_2) false _ A9.out).mono ?_); rintro e w' ⟨rfl, ⟨nd, rfl⟩⟩; refine ⟨_, rfl, ?_⟩; have p11 : 0 ≤ (x5_2 : Int) := of_decide_eq_true (by first | (with_reducible assumption) | assumption); have q11 : x5_2 < (a0.size : Int) := of_decide_eq_true (by first | (with_reducible assumption) | assumption); have hx11 := bt_at a0 x5_2; replace p11 := eq_true p11; replace q11 := eq_true q11))
                    go_ret
                    exact ⟨by first | rfl | (simp; done) | (simp [*]; done), by repeat (first | exact Drawn0.refl _ | apply Drawn0.step)⟩
              · rw [if_neg c7] at H
                exact absurd H (by simp)
            · rw [if_neg c6] at H
              have c6b0 : decide (x5_2 < (a0.size : Int)) = false := decide_eq_false c6
              clear c6
              obtain rfl := Option.some.inj H
              go_wp2
              go_ret
              exact ⟨by first | rfl | (simp; done) | (simp [*]; done), by repeat (first | exact Drawn0.refl _ | apply Drawn0.step)⟩

/-! ### secateurref04_Name: function 64 -/
def secateurref04_Name.f (k : Nat) (a0 : ByteArray) : Option (Bool) := if a0.toList = ([60, 99, 108, 105, 110, 105, 116, 62] : List UInt8) then (some true) else ((secateurref04_all.f k a0 95).bind fun t102 => (some t102))
theorem secateurref04_Name.mono : ∀ a0 k, LeO (secateurref04_Name.f k a0) (secateurref04_Name.f (k + 1) a0) := by
  intro a0 k
  unfold secateurref04_Name.f
  repeat' first
      | (with_reducible exact secateurref04_all.mono _ _ _)
      | (with_reducible exact LeO.refl _)
      | (with_reducible exact LeO.none _)
      | (with_reducible refine LeO.ite ?_ ?_)
      | (with_reducible refine LeO.bind ?_ (fun _ => ?_))
      | exact secateurref04_all.mono _ _ _
      | exact LeO.none _
      | refine LeO.ite ?_ ?_
      | refine LeO.bind ?_ (fun _ => ?_)
set_option maxHeartbeats 8000000 in
set_option maxRecDepth 100000 in
theorem secateurref04_Name.calls (k : Nat) (a0 : ByteArray) (r : Bool) (w : World) (h : secateurref04_Name.f k a0 = some r) :
    Calls Tryd.prog 64 #[.string a0] w fun e w' => e = .returned (.bool r) ∧ Drawn0 w w' := by
  have H : (if a0.toList = ([60, 99, 108, 105, 110, 105, 116, 62] : List UInt8) then (some true) else ((secateurref04_all.f k a0 95).bind fun t102 => (some t102))) = some r := h
  clear h
  by_cases c2 : a0.toList = ([60, 99, 108, 105, 110, 105, 116, 62] : List UInt8)
  · rw [if_pos c2] at H
    have c2b0 : (a0.toList == ([60, 99, 108, 105, 110, 105, 116, 62] : List UInt8)) = true := beq_iff_eq.mpr c2
    have c2b1 : (a0.toList != ([60, 99, 108, 105, 110, 105, 116, 62] : List UInt8)) = false := bne_eq_false_iff_eq.mpr c2
    clear c2
    obtain rfl := Option.some.inj H
    go_enter Tryd.func64, Tryd.ntmps64
    go_wp2
    go_ret
    exact ⟨by first | rfl | (simp; done) | (simp [*]; done), by repeat (first | exact Drawn0.refl _ | apply Drawn0.step)⟩
  · rw [if_neg c2] at H
    have c2b0 : (a0.toList == ([60, 99, 108, 105, 110, 105, 116, 62] : List UInt8)) = false := beq_eq_false_iff_ne.mpr c2
    have c2b1 : (a0.toList != ([60, 99, 108, 105, 110, 105, 116, 62] : List UInt8)) = true := bne_iff_ne.mpr c2
    replace H := Option.bind_eq_some_iff.mp H
    obtain ⟨t102, A30, H⟩ := H
    replace H : (some t102) = some r := H
    have A3 := Aside0.mk A30
    clear A30
    obtain rfl := Option.some.inj H
    go_enter Tryd.func64, Tryd.ntmps64
    go_wp2_with (first | (go_at_call 111; (with_reducible refine (secateurref04_all.calls k a0 95 t102 _ A3.out).mono ?_); rintro e w' ⟨rfl, ⟨nd, rfl⟩⟩))
    go_ret
    exact ⟨by first | rfl | (simp; done) | (simp [*]; done), by repeat (first | exact Drawn0.refl _ | apply Drawn0.step)⟩

/-! ### secateurref04_Class: function 63 -/
def secateurref04_Class.f (k : Nat) (a0 : ByteArray) : Option (Bool) := (secateurref04_all.f k a0 47).bind fun t103 => (some t103)
theorem secateurref04_Class.mono : ∀ a0 k, LeO (secateurref04_Class.f k a0) (secateurref04_Class.f (k + 1) a0) := by
  intro a0 k
  unfold secateurref04_Class.f
  repeat' first
      | (with_reducible exact secateurref04_all.mono _ _ _)
      | (with_reducible exact LeO.refl _)
      | (with_reducible exact LeO.none _)
      | (with_reducible refine LeO.ite ?_ ?_)
      | (with_reducible refine LeO.bind ?_ (fun _ => ?_))
      | exact secateurref04_all.mono _ _ _
      | exact LeO.none _
      | refine LeO.ite ?_ ?_
      | refine LeO.bind ?_ (fun _ => ?_)
set_option maxHeartbeats 8000000 in
set_option maxRecDepth 100000 in
theorem secateurref04_Class.calls (k : Nat) (a0 : ByteArray) (r : Bool) (w : World) (h : secateurref04_Class.f k a0 = some r) :
    Calls Tryd.prog 63 #[.string a0] w fun e w' => e = .returned (.bool r) ∧ Drawn0 w w' := by
  have H : ((secateurref04_all.f k a0 47).bind fun t103 => (some t103)) = some r := h
  clear h
  replace H := Option.bind_eq_some_iff.mp H
  obtain ⟨t103, A20, H⟩ := H
  replace H : (some t103) = some r := H
  have A2 := Aside0.mk A20
  clear A20
  obtain rfl := Option.some.inj H
  go_enter Tryd.func63, Tryd.ntmps63
  go_wp2_with (first | ((with_reducible refine gate_callee (f := 111) rfl ?_); refine goesL_ (some 4) rfl rfl Tryd.func111 (by kernel_rfl) rfl #[.string a0, .int .u8 47] rfl (by (try simp only [List.map_toArray, List.map_cons, List.map_nil]); first | done | rfl | (simp only [List.length_drop, List.length_take]; rfl)) ?_; (with_reducible refine (secateurref04_all.calls k a0 47 t103 _ A2.out).mono ?_); rintro e w' ⟨rfl, ⟨nd, rfl⟩⟩; refine ⟨_, rfl, ?_⟩))
  go_ret
  exact ⟨by first | rfl | (simp; done) | (simp [*]; done), by repeat (first | exact Drawn0.refl _ | apply Drawn0.step)⟩

end Go.Proofs.YtmlbfepibfobaaaDoor.Q13
end

section
-- Written by this session's program layer.py (the kit's print, turned), not by hand.
namespace Go.Proofs.YtmlbfepibfobaaaDoor.Q13
open Go.RowKit Go.Proofs.YtmlbfepibfobaaaDoorW.PrintWords Go.Proofs.YtmlbfepibfobaaaDoorW.PrintLast Go.Proofs.YtmlbfepibfobaaaDoorW.PrintMore
attribute [local go_sem] max2_int min2_int max_two min_two max_three min_three max_four min_four   -- for this text's walks alone
set_option linter.unusedVariables false
set_option linter.unusedSimpArgs false

end Go.Proofs.YtmlbfepibfobaaaDoor.Q13
end

section
namespace Go.Proofs.YtmlbfepibfobaaaDoor.HandK
open Go.RowKit Go.Proofs.YtmlbfepibfobaaaDoorW.PrintWords Go.Proofs.YtmlbfepibfobaaaDoorW.PrintLast Go.Proofs.YtmlbfepibfobaaaDoorW.PrintMore Go.Proofs.YtmlbfepibfobaaaDoor.Hand
set_option linter.unusedVariables false
set_option linter.unusedSimpArgs false

/-! ### names (as HKin1, HKin2, over the rules' base) -/
def ofL (p : Int → Bool) (l : List UInt8) : Bool := l.all (fun b => p (b.toNat : Int)) && decide (0 < l.length ∧ l.length ≤ 32)
def letterI (c : Int) : Bool := decide (65 ≤ c ∧ c ≤ 90) || decide (97 ≤ c ∧ c ≤ 122) || decide (48 ≤ c ∧ c ≤ 57) || decide (c = 95) || decide (c = 36)
def secateurref04_letter.f (a0 : Int) : Option Bool := some (letterI a0)
theorem letterR_eq (c : Int) : Q13.secateurref04_letter.f c = some (letterI c) := by
  unfold Q13.secateurref04_letter.f letterI
  by_cases h1 : c = 95
  · subst h1; decide
  by_cases h2 : c = 36
  · subst h2; decide
  by_cases h3 : 65 ≤ c <;> by_cases h4 : c ≤ 90 <;> by_cases h5 : 97 ≤ c <;> by_cases h6 : c ≤ 122 <;> by_cases h7 : 48 ≤ c <;> by_cases h8 : c ≤ 57 <;> simp [*] <;> omega
def slashL (c : Int) : Bool := letterI c || decide (c = 47)
def initL : List UInt8 := [60, 99, 108, 105, 110, 105, 116, 62]
def nameL (l : List UInt8) : Bool := decide (l = initL) || ofL letterI l
def classL (l : List UInt8) : Bool := ofL slashL l
def moreL (m : Int) (c : Int) : Bool := letterI c || decide (c = m)
theorem all_loop (s : ByteArray) (m : Int) (hs : s.size ≤ 9223372036854775806) : ∀ (d i k : Nat), s.size - i = d → i ≤ s.size → d < k → Q13.secateurref04_all.l0 k s m i = some ((s.data.toList.drop i).all (fun b => moreL m (b.toNat : Int))) := by
  intro d
  induction d with
  | zero =>
    intro i k hd hi hk
    obtain ⟨k, rfl⟩ : ∃ j, k = j + 1 := ⟨k - 1, by omega⟩
    rw [Q13.secateurref04_all.l0, if_neg (by omega), List.drop_of_length_le (by rw [Array.length_toList]; show s.size ≤ i; omega)]
    rfl
  | succ d ih =>
    intro i k hd hi hk
    obtain ⟨k, rfl⟩ : ∃ j, k = j + 1 := ⟨k - 1, by omega⟩
    have hlt : i < s.size := by omega
    have ih := ih (i + 1) k (by omega) (by omega) (by omega)
    push_cast at ih
    have e1 : secateurref04_letter.f (bt s i) = some (letterI (bt s i)) := rfl
    have e0 : Q13.secateurref04_letter.f (bt s i) = some (letterI (bt s i)) := letterR_eq _
    rw [Q13.secateurref04_all.l0, if_pos (by omega), if_pos (by omega), e0, Option.bind_some, wrap_in (by omega) (by omega), ih, drop_data s i hlt, List.all_cons, bt_nat s i hlt]
    unfold moreL
    cases letterI (s[i].toNat : Int) with
    | true => simp
    | false =>
      by_cases h : (s[i].toNat : Int) = m
      · simp [h]
      · simp [h]
theorem all_eq (s : ByteArray) (m : Int) (hs : s.size ≤ 9223372036854775806) : Q13.secateurref04_all.f (s.size + 2) s m = some (ofL (moreL m) s.data.toList) := by
  unfold Q13.secateurref04_all.f ofL
  have hl : s.data.toList.length = s.size := by rw [Array.length_toList]; rfl
  rw [hl]
  by_cases h1 : (s.size : Int) < 1
  · rw [if_pos h1, Q13.secateurref04_all.j0, if_pos rfl, decide_eq_false (show ¬ (0 < s.size ∧ s.size ≤ 32) by omega), Bool.and_false]
  · rw [if_neg h1, Q13.secateurref04_all.j0]
    by_cases h2 : (s.size : Int) > 32
    · rw [if_pos (decide_eq_true h2), decide_eq_false (show ¬ (0 < s.size ∧ s.size ≤ 32) by omega), Bool.and_false]
    · rw [if_neg (by rw [decide_eq_false h2]; decide), decide_eq_true (show 0 < s.size ∧ s.size ≤ 32 by omega), Bool.and_true]
      exact all_loop s m hs s.size 0 (s.size + 1) rfl (by omega) (by omega)
theorem ofL_letter (l : List UInt8) : ofL (moreL 95) l = ofL letterI l := by
  have : moreL 95 = letterI := by
    funext c
    unfold moreL
    by_cases h : c = 95
    · subst h; decide
    · rw [decide_eq_false h, Bool.or_false]
  rw [this]
def secateurref04_Name.f (s : ByteArray) : Option Bool := if s.size ≤ 9223372036854775806 then some (nameL s.data.toList) else none
def secateurref04_Class.f (s : ByteArray) : Option Bool := if s.size ≤ 9223372036854775806 then some (classL s.data.toList) else none
theorem classR_eq (s : ByteArray) (hs : s.size ≤ 9223372036854775806) : Q13.secateurref04_Class.f (s.size + 2) s = some (classL s.data.toList) := by
  unfold Q13.secateurref04_Class.f
  rw [all_eq s 47 hs]
  rfl
theorem nameR_eq (s : ByteArray) (hs : s.size ≤ 9223372036854775806) : Q13.secateurref04_Name.f (s.size + 2) s = some (nameL s.data.toList) := by
  unfold Q13.secateurref04_Name.f nameL initL
  rw [all_eq s 95 hs, ofL_letter, ByteArray.toList_eq]
  by_cases h : s.data.toList = [60, 99, 108, 105, 110, 105, 116, 62]
  · rw [if_pos h, decide_eq_true h, Bool.true_or]
  · rw [if_neg h, decide_eq_false h, Bool.false_or]
    rfl
theorem secateurref04_Name.calls (a0 : ByteArray) (r : Bool) (w : World) (h : secateurref04_Name.f a0 = some r) :
    Calls Tryd.prog 64 #[.string a0] w fun e w' => e = .returned (.bool r) ∧ Drawn0 w w' := by
  unfold secateurref04_Name.f at h
  split at h
  · rename_i hs
    exact Q13.secateurref04_Name.calls _ a0 r w ((nameR_eq a0 hs).trans h)
  · cases h
theorem secateurref04_Class.calls (a0 : ByteArray) (r : Bool) (w : World) (h : secateurref04_Class.f a0 = some r) :
    Calls Tryd.prog 63 #[.string a0] w fun e w' => e = .returned (.bool r) ∧ Drawn0 w w' := by
  unfold secateurref04_Class.f at h
  split at h
  · rename_i hs
    exact Q13.secateurref04_Class.calls _ a0 r w ((classR_eq a0 hs).trans h)
  · cases h

end Go.Proofs.YtmlbfepibfobaaaDoor.HandK
end

section
namespace Go.Proofs.YtmlbfepibfobaaaDoor.Hand
open Go.RowKit Go.Proofs.YtmlbfepibfobaaaDoorW.PrintWords Go.Proofs.YtmlbfepibfobaaaDoorW.PrintLast Go.Proofs.YtmlbfepibfobaaaDoorW.PrintMore
set_option linter.unusedVariables false
set_option linter.unusedSimpArgs false

/-! ### an exact rule -/
def plainB (c : UInt8) : Bool := globB c && (c != 42 && c != 63)
theorem mat_plain : ∀ (p s : List UInt8), p.all plainB = true → mat p s = decide (s = p)
  | [], s, _ => by
    cases s with
    | nil => simp [mat]
    | cons x s => simp [mat]
  | c :: p, s, h => by
    rw [List.all_cons, Bool.and_eq_true] at h
    have hc := h.1
    unfold plainB at hc
    simp only [Bool.and_eq_true, bne_iff_ne] at hc
    cases s with
    | nil => simp [mat, hc.2.1]
    | cons x s =>
      rw [mat, if_neg hc.2.1, mat_plain p s h.2, beq_eq_false_iff_ne.2 hc.2.2, Bool.false_or]
      by_cases hx : c = x
      · subst hx
        by_cases hs : s = p <;> simp [hs]
      · simp [hx, Ne.symm hx]
theorem plain_glob {p : List UInt8} (h : p.all plainB = true) : p.all globB = true := List.all_eq_true.2 fun x hx => by
  have := List.all_eq_true.1 h x hx
  unfold plainB at this
  simp only [Bool.and_eq_true] at this
  exact this.1
theorem plain_of {p : Int → Bool} (hp : ∀ c : UInt8, p (c.toNat : Int) = true → plainB c = true) {l : List UInt8} (h : HandK.ofL p l = true) : l.all plainB = true ∧ globR l = true ∧ l.length ≤ 32 := by
  unfold HandK.ofL at h
  simp only [Bool.and_eq_true, decide_eq_true_iff] at h
  have h1 : l.all plainB = true := List.all_eq_true.2 fun x hx => hp x (List.all_eq_true.1 h.1 x hx)
  refine ⟨h1, ?_, h.2.2⟩
  unfold globR
  rw [plain_glob h1, Bool.true_and, decide_eq_true_iff]
  omega
theorem slash_plain (c : UInt8) (h : HandK.slashL (c.toNat : Int) = true) : plainB c = true := by
  revert h
  unfold plainB globB HandK.slashL HandK.letterI
  have := c.toNat_lt
  intro h
  simp only [Bool.or_eq_true, decide_eq_true_iff] at h
  simp only [Bool.and_eq_true, decide_eq_true_iff, bne_iff_ne]
  refine ⟨by omega, ?_, ?_⟩
  · rintro rfl
    revert h
    decide
  · rintro rfl
    revert h
    decide
theorem letter_plain (c : UInt8) (h : HandK.letterI (c.toNat : Int) = true) : plainB c = true := slash_plain c (by unfold HandK.slashL; rw [h]; rfl)
theorem exactC (n : Bool) (c x : List UInt8) (h : HandK.classL c = true) : classB (n, false, c, [], []) x = decide (x = c) := by
  obtain ⟨h1, h2, h3⟩ := plain_of slash_plain (l := c) h
  unfold classB rightR
  rw [mat_plain c x h1]
  simp [h2]
theorem exactM (n : Bool) (c a x y z : List UInt8) (h : HandK.classL c = true) (ha : HandK.nameL a = true) (hi : a ≠ [60, 99, 108, 105, 110, 105, 116, 62]) : memberB (n, true, c, a, [40, 41, 73]) x y z = (decide (x = c) && (decide (y = a) && decide (z = [40, 41, 73]))) := by
  obtain ⟨h1, h2, h3⟩ := plain_of slash_plain (l := c) h
  have ha' : HandK.ofL HandK.letterI a = true := by
    unfold HandK.nameL HandK.initL at ha
    rw [decide_eq_false hi, Bool.false_or] at ha
    exact ha
  obtain ⟨a1, a2, a3⟩ := plain_of letter_plain (l := a) ha'
  have d1 : ([40, 41, 73] : List UInt8).all plainB = true := by decide
  have d2 : globR [40, 41, 73] = true := by decide
  unfold memberB rightR
  rw [mat_plain c x h1, mat_plain a y a1, mat_plain _ z d1]
  simp only [h2, a2, d2, Bool.and_self, if_true, Bool.true_and]
  by_cases hy : y = a
  · subst hy
    simp [hi]
  · simp [hy]
end Go.Proofs.YtmlbfepibfobaaaDoor.Hand
end

section
namespace Go.Proofs.YtmlbfepibfobaaaDoor.Hand
open Go.RowKit Go.Proofs.YtmlbfepibfobaaaDoorW.PrintWords Go.Proofs.YtmlbfepibfobaaaDoorW.PrintLast Go.Proofs.YtmlbfepibfobaaaDoorW.PrintMore
set_option linter.unusedVariables false
set_option linter.unusedSimpArgs false

/-- Two blocks, and all that lay below. -/
structure RM (w0 w : World) (R S : Nat) (o1 o2 : Obj) : Prop where
  r : w.heap[R]? = some o1
  s : w.heap[S]? = some o2
  bel : Below w0.heap.size w0 w
theorem RM.below {w0 w w' : World} {R S : Nat} {o1 o2 : Obj} (h : RM w0 w R S o1 o2) (hb : Below w.heap.size w w') : RM w0 w' R S o1 o2 := ⟨blk_below h.r hb, blk_below h.s hb, below_step h.bel hb⟩
theorem cells3 {w : World} {g : Nat} {t : TypeId} {x y z : Value} (h : w.heap[g]? = some (Obj.cells #[x, y, z] t (0, 0))) : w.cell? ⟨g, 0, none⟩ = some x ∧ w.cell? ⟨g, 1, none⟩ = some y ∧ w.cell? ⟨g, 2, none⟩ = some z := by
  have c0 := blk_cell h 0
  have c1 := blk_cell h 1
  have c2 := blk_cell h 2
  simp only [List.getElem?_toArray, List.getElem?_cons_zero, List.getElem?_cons_succ] at c0 c1 c2
  exact ⟨c0, c1, c2⟩
theorem cells5 {w : World} {g : Nat} {t : TypeId} {x y z u v : Value} (h : w.heap[g]? = some (Obj.cells #[x, y, z, u, v] t (0, 0))) : w.cell? ⟨g, 0, none⟩ = some x ∧ w.cell? ⟨g, 1, none⟩ = some y ∧ w.cell? ⟨g, 2, none⟩ = some z ∧ w.cell? ⟨g, 3, none⟩ = some u ∧ w.cell? ⟨g, 4, none⟩ = some v := by
  have c0 := blk_cell h 0
  have c1 := blk_cell h 1
  have c2 := blk_cell h 2
  have c3 := blk_cell h 3
  have c4 := blk_cell h 4
  simp only [List.getElem?_toArray, List.getElem?_cons_zero, List.getElem?_cons_succ] at c0 c1 c2 c3 c4
  exact ⟨c0, c1, c2, c3, c4⟩
/-- Blocks that lie as they were made, and all that lay below. -/
structure KB (w0 w : World) (l : List (Nat × Obj)) : Prop where
  all : ∀ p ∈ l, w.heap[p.1]? = some p.2
  bel : Below w0.heap.size w0 w
theorem KB.below {w0 w w' : World} {l : List (Nat × Obj)} (h : KB w0 w l) (hb : Below w.heap.size w w') : KB w0 w' l := ⟨fun p hp => blk_below (h.all p hp) hb, below_step h.bel hb⟩
theorem KB.add {w0 w : World} {l : List (Nat × Obj)} (h : KB w0 w l) (o : Obj) : KB w0 (w.alloc o) ((w.heap.size, o) :: l) := ⟨fun p hp => by
  rcases List.mem_cons.1 hp with rfl | hp
  · exact World.alloc_heap_new w o
  · exact blk_alloc (h.all p hp) o, below_alloc h.bel o⟩
theorem cells2 {w : World} {g : Nat} {t : TypeId} {x y : Value} (h : w.heap[g]? = some (Obj.cells #[x, y] t (0, 0))) : w.cell? ⟨g, 0, none⟩ = some x ∧ w.cell? ⟨g, 1, none⟩ = some y := by
  have c0 := blk_cell h 0
  have c1 := blk_cell h 1
  simp only [List.getElem?_toArray, List.getElem?_cons_zero, List.getElem?_cons_succ] at c0 c1
  exact ⟨c0, c1⟩
theorem eq_bl (a b : ByteArray) : (a.toList == b.toList) = decide (bl a = bl b) := by
  rw [ByteArray.toList_eq, ByteArray.toList_eq]
  show (bl a == bl b) = _
  by_cases h : bl a = bl b <;> simp [h]
end Go.Proofs.YtmlbfepibfobaaaDoor.Hand
end

section
-- Written by this session's program layer.py (the kit's print, turned), not by hand.
namespace Go.Proofs.YtmlbfepibfobaaaDoor.Q21
open Go.RowKit Go.Proofs.YtmlbfepibfobaaaDoorW.PrintWords Go.Proofs.YtmlbfepibfobaaaDoorW.PrintLast Go.Proofs.YtmlbfepibfobaaaDoorW.PrintMore Go.Proofs.YtmlbfepibfobaaaDoor.Hand
attribute [local go_sem] max2_int min2_int max_two min_two max_three min_three max_four min_four   -- for this text's walks alone
set_option linter.unusedVariables false
set_option linter.unusedSimpArgs false



def errW : Option Int → Value
  | none => .nilIface
  | some c => .iface 0 (.int .i64 c)
theorem errW_none : errW none = .nilIface := rfl
theorem errW_some (c : Int) : errW (some c) = .iface 0 (.int .i64 c) := rfl

-- the values' own types

end Go.Proofs.YtmlbfepibfobaaaDoor.Q21
end

section
-- Written by this session's program layer.py (the kit's print, turned), not by hand.
namespace Go.Proofs.YtmlbfepibfobaaaDoor.Q21
open Go.RowKit Go.Proofs.YtmlbfepibfobaaaDoorW.PrintWords Go.Proofs.YtmlbfepibfobaaaDoorW.PrintLast Go.Proofs.YtmlbfepibfobaaaDoorW.PrintMore Go.Proofs.YtmlbfepibfobaaaDoor.Hand
attribute [local go_sem] max2_int min2_int max_two min_two max_three min_three max_four min_four   -- for this text's walks alone
set_option linter.unusedVariables false
set_option linter.unusedSimpArgs false

/-! ### rules_Exact: function 65 -/
def rules_Exact.f (a0 : ByteArray) (a1 : Bool) : Option (Bool × Bool × ByteArray × ByteArray × ByteArray) := some (a1, false, a0, (⟨#[]⟩ : ByteArray), (⟨#[]⟩ : ByteArray))
set_option maxHeartbeats 8000000 in
set_option maxRecDepth 100000 in
theorem rules_Exact.calls (a0 : ByteArray) (a1 : Bool) (r1 : Bool) (r2 : Bool) (r3 : ByteArray) (r4 : ByteArray) (r5 : ByteArray) (w : World) (h : rules_Exact.f a0 a1 = some (r1, r2, r3, r4, r5)) :
    Calls Tryd.prog 65 #[.string a0, .bool a1] w fun e w' => e = .returned (.agg #[.bool r1, .bool r2, .string r3, .string r4, .string r5]) ∧ Below w.heap.size w w' := by
  have hu66 := Tryd.underlying66
  have HB := Aside0.mk (Below.refl w.heap.size w)
  have H : (some (a1, false, a0, (⟨#[]⟩ : ByteArray), (⟨#[]⟩ : ByteArray))) = some (r1, r2, r3, r4, r5) := h
  clear h
  simp only [Option.some.injEq, Prod.mk.injEq] at H
  obtain ⟨rfl, rfl, rfl, rfl, rfl⟩ := H
  go_enter Tryd.func65, Tryd.ntmps65
  go_wp2_with (first | ((with_reducible refine gate_dst (N := 4) rfl ?_); refine box_event ?hg (N := 4) ?hd (cs := #[.bool false, .bool false, .string (⟨#[]⟩ : ByteArray), .string (⟨#[]⟩ : ByteArray), .string (⟨#[]⟩ : ByteArray)]) (t := 66) ?hr ?_; (case hd => rfl); (case hg => rfl); (case hr => first | (go_simp; done) | (go_simp; rfl)); intro gb101 hg w3 hbox hb; have n0_ := Aside0.mk (below_step (by repeat (first | (with_reducible first | exact HB.out | apply below_alloc | apply pw_below_drewN | apply below_drew1) | exact HB.out)) hb); have n1_ := Aside0.mk (hbox); have n2_ := Aside0.mk ((by rw [hg]; exact (below_size (by repeat (first | (with_reducible first | exact HB.out | apply below_alloc | apply pw_below_drewN | apply below_drew1) | exact HB.out))) : w.heap.size ≤ gb101)); have n3_ := Aside0.mk ((by rw [hg]; exact (below_size (by repeat (first | (with_reducible first | exact HB.out | apply below_alloc | apply pw_below_drewN | apply below_drew1) | exact HB.out))) : w.heap.size ≤ gb101)); clear HB; have HB := n0_; have BK101 := n1_; have GW101 := n2_; have GE101 := n3_; clear n0_ n1_ n2_ n3_; clear hb hbox hg; have hcz4_0 : w3.cell? ⟨gb101, 0, none⟩ = some (.bool false) := (blk_cell BK101.out 0).trans rfl; have hcz4_1 : w3.cell? ⟨gb101, 1, none⟩ = some (.bool false) := (blk_cell BK101.out 1).trans rfl; have hcz4_2 : w3.cell? ⟨gb101, 2, none⟩ = some (.string (⟨#[]⟩ : ByteArray)) := (blk_cell BK101.out 2).trans rfl; have hcz4_3 : w3.cell? ⟨gb101, 3, none⟩ = some (.string (⟨#[]⟩ : ByteArray)) := (blk_cell BK101.out 3).trans rfl; have hcz4_4 : w3.cell? ⟨gb101, 4, none⟩ = some (.string (⟨#[]⟩ : ByteArray)) := (blk_cell BK101.out 4).trans rfl; have hfz4_0 := blk_frozen BK101.out 0; have hfz4_1 := blk_frozen BK101.out 1; have hfz4_2 := blk_frozen BK101.out 2; have hfz4_3 := blk_frozen BK101.out 3; have hfz4_4 := blk_frozen BK101.out 4))
  refine bodyPost_ret (results_cell_row rfl _ _ gb101 66 #[.bool a1, .bool false, .string a0, .string (⟨#[]⟩ : ByteArray), .string (⟨#[]⟩ : ByteArray)] (0, 0) _ rfl (by (with_reducible repeat (first | refine blk_drewN ?_ _ | refine blk_drew ?_ | refine blk_alloc ?_ _)); refine blk_put (cs := #[.bool a1, .bool false, .string a0, .string (⟨#[]⟩ : ByteArray), .string (⟨#[]⟩ : ByteArray)]) ?_ 4 _ rfl; (with_reducible repeat (first | refine blk_drewN ?_ _ | refine blk_drew ?_ | refine blk_alloc ?_ _)); refine blk_put (cs := #[.bool a1, .bool false, .string a0, .string (⟨#[]⟩ : ByteArray), .string (⟨#[]⟩ : ByteArray)]) ?_ 3 _ rfl; (with_reducible repeat (first | refine blk_drewN ?_ _ | refine blk_drew ?_ | refine blk_alloc ?_ _)); refine blk_put (cs := #[.bool a1, .bool false, .string (⟨#[]⟩ : ByteArray), .string (⟨#[]⟩ : ByteArray), .string (⟨#[]⟩ : ByteArray)]) ?_ 2 _ rfl; (with_reducible repeat (first | refine blk_drewN ?_ _ | refine blk_drew ?_ | refine blk_alloc ?_ _)); refine blk_put (cs := #[.bool a1, .bool false, .string (⟨#[]⟩ : ByteArray), .string (⟨#[]⟩ : ByteArray), .string (⟨#[]⟩ : ByteArray)]) ?_ 1 _ rfl; (with_reducible repeat (first | refine blk_drewN ?_ _ | refine blk_drew ?_ | refine blk_alloc ?_ _)); refine blk_put (cs := #[.bool false, .bool false, .string (⟨#[]⟩ : ByteArray), .string (⟨#[]⟩ : ByteArray), .string (⟨#[]⟩ : ByteArray)]) ?_ 0 _ rfl; (with_reducible repeat (first | refine blk_drewN ?_ _ | refine blk_drew ?_ | refine blk_alloc ?_ _)); exact BK101.out) Tryd.underlying66 rfl (by kernel_rfl)) rfl ?_
  exact ⟨by first | rfl | (simp [errW_none, errW_some] <;> rfl) | (simp [*, errW_none, errW_some] <;> rfl), by repeat (first | (with_reducible first | exact HB.out | apply below_alloc | apply pw_below_drewN | apply below_drew1 | refine below_set ?_ GE101.out) | exact HB.out)⟩

/-! ### rules_ExactMember: function 62 -/
def rules_ExactMember.f (a0 : ByteArray) (a1 : ByteArray) (a2 : ByteArray) (a3 : Bool) : Option (Bool × Bool × ByteArray × ByteArray × ByteArray) := some (a3, true, a0, a1, a2)
set_option maxHeartbeats 8000000 in
set_option maxRecDepth 100000 in
theorem rules_ExactMember.calls (a0 : ByteArray) (a1 : ByteArray) (a2 : ByteArray) (a3 : Bool) (r1 : Bool) (r2 : Bool) (r3 : ByteArray) (r4 : ByteArray) (r5 : ByteArray) (w : World) (h : rules_ExactMember.f a0 a1 a2 a3 = some (r1, r2, r3, r4, r5)) :
    Calls Tryd.prog 62 #[.string a0, .string a1, .string a2, .bool a3] w fun e w' => e = .returned (.agg #[.bool r1, .bool r2, .string r3, .string r4, .string r5]) ∧ Below w.heap.size w w' := by
  have hu66 := Tryd.underlying66
  have HB := Aside0.mk (Below.refl w.heap.size w)
  have H : (some (a3, true, a0, a1, a2)) = some (r1, r2, r3, r4, r5) := h
  clear h
  simp only [Option.some.injEq, Prod.mk.injEq] at H
  obtain ⟨rfl, rfl, rfl, rfl, rfl⟩ := H
  go_enter Tryd.func62, Tryd.ntmps62
  go_wp2_with (first | ((with_reducible refine gate_dst (N := 8) rfl ?_); refine box_event ?hg (N := 8) ?hd (cs := #[.bool false, .bool false, .string (⟨#[]⟩ : ByteArray), .string (⟨#[]⟩ : ByteArray), .string (⟨#[]⟩ : ByteArray)]) (t := 66) ?hr ?_; (case hd => rfl); (case hg => rfl); (case hr => first | (go_simp; done) | (go_simp; rfl)); intro gb102 hg w5 hbox hb; have n0_ := Aside0.mk (below_step (by repeat (first | (with_reducible first | exact HB.out | apply below_alloc | apply pw_below_drewN | apply below_drew1) | exact HB.out)) hb); have n1_ := Aside0.mk (hbox); have n2_ := Aside0.mk ((by rw [hg]; exact (below_size (by repeat (first | (with_reducible first | exact HB.out | apply below_alloc | apply pw_below_drewN | apply below_drew1) | exact HB.out))) : w.heap.size ≤ gb102)); have n3_ := Aside0.mk ((by rw [hg]; exact (below_size (by repeat (first | (with_reducible first | exact HB.out | apply below_alloc | apply pw_below_drewN | apply below_drew1) | exact HB.out))) : w.heap.size ≤ gb102)); clear HB; have HB := n0_; have BK102 := n1_; have GW102 := n2_; have GE102 := n3_; clear n0_ n1_ n2_ n3_; clear hb hbox hg; have hcz6_0 : w5.cell? ⟨gb102, 0, none⟩ = some (.bool false) := (blk_cell BK102.out 0).trans rfl; have hcz6_1 : w5.cell? ⟨gb102, 1, none⟩ = some (.bool false) := (blk_cell BK102.out 1).trans rfl; have hcz6_2 : w5.cell? ⟨gb102, 2, none⟩ = some (.string (⟨#[]⟩ : ByteArray)) := (blk_cell BK102.out 2).trans rfl; have hcz6_3 : w5.cell? ⟨gb102, 3, none⟩ = some (.string (⟨#[]⟩ : ByteArray)) := (blk_cell BK102.out 3).trans rfl; have hcz6_4 : w5.cell? ⟨gb102, 4, none⟩ = some (.string (⟨#[]⟩ : ByteArray)) := (blk_cell BK102.out 4).trans rfl; have hfz6_0 := blk_frozen BK102.out 0; have hfz6_1 := blk_frozen BK102.out 1; have hfz6_2 := blk_frozen BK102.out 2; have hfz6_3 := blk_frozen BK102.out 3; have hfz6_4 := blk_frozen BK102.out 4))
  refine bodyPost_ret (results_cell_row rfl _ _ gb102 66 #[.bool a3, .bool true, .string a0, .string a1, .string a2] (0, 0) _ rfl (by (with_reducible repeat (first | refine blk_drewN ?_ _ | refine blk_drew ?_ | refine blk_alloc ?_ _)); refine blk_put (cs := #[.bool a3, .bool true, .string a0, .string a1, .string (⟨#[]⟩ : ByteArray)]) ?_ 4 _ rfl; (with_reducible repeat (first | refine blk_drewN ?_ _ | refine blk_drew ?_ | refine blk_alloc ?_ _)); refine blk_put (cs := #[.bool a3, .bool true, .string a0, .string (⟨#[]⟩ : ByteArray), .string (⟨#[]⟩ : ByteArray)]) ?_ 3 _ rfl; (with_reducible repeat (first | refine blk_drewN ?_ _ | refine blk_drew ?_ | refine blk_alloc ?_ _)); refine blk_put (cs := #[.bool a3, .bool true, .string (⟨#[]⟩ : ByteArray), .string (⟨#[]⟩ : ByteArray), .string (⟨#[]⟩ : ByteArray)]) ?_ 2 _ rfl; (with_reducible repeat (first | refine blk_drewN ?_ _ | refine blk_drew ?_ | refine blk_alloc ?_ _)); refine blk_put (cs := #[.bool a3, .bool false, .string (⟨#[]⟩ : ByteArray), .string (⟨#[]⟩ : ByteArray), .string (⟨#[]⟩ : ByteArray)]) ?_ 1 _ rfl; (with_reducible repeat (first | refine blk_drewN ?_ _ | refine blk_drew ?_ | refine blk_alloc ?_ _)); refine blk_put (cs := #[.bool false, .bool false, .string (⟨#[]⟩ : ByteArray), .string (⟨#[]⟩ : ByteArray), .string (⟨#[]⟩ : ByteArray)]) ?_ 0 _ rfl; (with_reducible repeat (first | refine blk_drewN ?_ _ | refine blk_drew ?_ | refine blk_alloc ?_ _)); exact BK102.out) Tryd.underlying66 rfl (by kernel_rfl)) rfl ?_
  exact ⟨by first | rfl | (simp [errW_none, errW_some] <;> rfl) | (simp [*, errW_none, errW_some] <;> rfl), by repeat (first | (with_reducible first | exact HB.out | apply below_alloc | apply pw_below_drewN | apply below_drew1 | refine below_set ?_ GE102.out) | exact HB.out)⟩

end Go.Proofs.YtmlbfepibfobaaaDoor.Q21
end

section
-- Written by this session's program layer.py (the kit's print, turned), not by hand.
namespace Go.Proofs.YtmlbfepibfobaaaDoor.Q21
open Go.RowKit Go.Proofs.YtmlbfepibfobaaaDoorW.PrintWords Go.Proofs.YtmlbfepibfobaaaDoorW.PrintLast Go.Proofs.YtmlbfepibfobaaaDoorW.PrintMore
attribute [local go_sem] max2_int min2_int max_two min_two max_three min_three max_four min_four   -- for this text's walks alone
set_option linter.unusedVariables false
set_option linter.unusedSimpArgs false

end Go.Proofs.YtmlbfepibfobaaaDoor.Q21
end

section
namespace Go.Proofs.YtmlbfepibfobaaaDoor.Hand
open Go.RowKit Go.Proofs.YtmlbfepibfobaaaDoorW.PrintWords Go.Proofs.YtmlbfepibfobaaaDoorW.PrintLast Go.Proofs.YtmlbfepibfobaaaDoorW.PrintMore
set_option linter.unusedVariables false
set_option linter.unusedSimpArgs false

set_option maxHeartbeats 8000000 in
set_option maxRecDepth 100000 in
theorem RulesExact_go (x y u v : ByteArray) (n : Bool) (w : World) (hM : MaxL w) (hx : x.size ≤ 140737488351232) (hy : y.size ≤ 140737488351232) :
    Calls Tryd.prog 14 #[.agg #[.string x, .string y], .agg #[.string u, .string v], .bool n] w fun e w' => e = .returned (.bool true) ∧ Below w.heap.size w w' := by
  have HM := Aside0.mk hM
  obtain ⟨cb, hcb⟩ : ∃ b, b = HandK.classL (bl x) := ⟨_, rfl⟩
  obtain ⟨nb, hnb⟩ : ∃ b, b = HandK.nameL (bl y) := ⟨_, rfl⟩
  have KC := Aside0.mk (fun W => HandK.secateurref04_Class.calls x cb W (by unfold HandK.secateurref04_Class.f; rw [if_pos (by omega), hcb]; rfl))
  have KN := Aside0.mk (fun W => HandK.secateurref04_Name.calls y nb W (by unfold HandK.secateurref04_Name.f; rw [if_pos (by omega), hnb]; rfl))
  have HCB := Aside0.mk hcb
  have HNB := Aside0.mk hnb
  clear hM hcb hnb
  have hH := ((KB.add (KB.add (l := []) (w0 := w) (w := w) ⟨fun p hp => (by cases hp), Below.refl _ _⟩ (Obj.cells #[.string x, .string y] 82)) (Obj.cells #[.string u, .string v] 82))).below (below_drew1 (Below.refl _ _))
  rw [show (w.alloc (Obj.cells #[.string x, .string y] 82)).heap.size = w.heap.size + 1 by simp] at hH
  have co := cells2 (hH.all (w.heap.size, Obj.cells #[.string x, .string y] 82) (by simp))
  go_enter Tryd.func14, Tryd.ntmps14
  go_wp2_with fail
  go_region_held3 (fun w' => w'.cell? ⟨w.heap.size, 0, none⟩ = some (.string x) ∧ w'.cell? ⟨w.heap.size, 1, none⟩ = some (.string y)) (exact co) (fail)
  clear co
  go_wp2_with fail
  refine (KC.out _).mono ?_
  rintro e w1 ⟨rfl, hd1⟩
  replace hH := hH.below hd1.below
  cases cb with
  | false =>
    go_wp2_with (go_at_call 48; refine (secateurlaw22_live.calls true _ (max_below HM.out hH.bel) rfl).mono ?_; rintro e w2 ⟨rfl, hd2⟩; replace hH := hH.below hd2)
    go_ret
    exact ⟨rfl, hH.bel⟩
  | true =>
  go_wp2_with fail
  refine (KN.out _).mono ?_
  rintro e w1 ⟨rfl, hd2⟩
  replace hH := hH.below hd2.below
  cases nb with
  | false =>
    go_wp2_with (go_at_call 48; refine (secateurlaw22_live.calls true _ (max_below HM.out hH.bel) rfl).mono ?_; rintro e w2 ⟨rfl, hd2⟩; replace hH := hH.below hd2)
    go_ret
    exact ⟨rfl, hH.bel⟩
  | true =>
  obtain ⟨ib, hib⟩ : ∃ b, b = (y.toList == [60, 99, 108, 105, 110, 105, 116, 62]) := ⟨_, rfl⟩
  have HIB := Aside0.mk hib
  have hib' := hib.symm
  clear hib
  cases ib with
  | true =>
    go_wp2_with (go_at_call 48; refine (secateurlaw22_live.calls true _ (max_below HM.out hH.bel) rfl).mono ?_; rintro e w2 ⟨rfl, hd2⟩; replace hH := hH.below hd2)
    go_ret
    exact ⟨rfl, hH.bel⟩
  | false =>
  obtain ⟨o0, o1⟩ := cells2 (hH.all (w.heap.size + 1, Obj.cells #[.string u, .string v] 82) (by simp))
  by_cases hu : 60 < u.size
  · have e1 : decide ((u.size : Int) > 60) = true := decide_eq_true (by omega)
    have e2 : decide ((60 : Int) < (u.size : Int)) = true := decide_eq_true (by omega)
    have e3 : decide (60 < u.size) = true := decide_eq_true hu
    go_wp2_with (go_at_call 48; refine (secateurlaw22_live.calls true _ (max_below HM.out hH.bel) rfl).mono ?_; rintro e w2 ⟨rfl, hd2⟩; replace hH := hH.below hd2)
    go_ret
    exact ⟨rfl, hH.bel⟩
  have e1 : decide ((u.size : Int) > 60) = false := decide_eq_false (by omega)
  have e2 : decide ((60 : Int) < (u.size : Int)) = false := decide_eq_false (by omega)
  have e3 : decide (60 < u.size) = false := decide_eq_false hu
  by_cases hv : 60 < v.size
  · have e4 : decide ((v.size : Int) > 60) = true := decide_eq_true (by omega)
    have e5 : decide ((60 : Int) < (v.size : Int)) = true := decide_eq_true (by omega)
    have e6 : decide (60 < v.size) = true := decide_eq_true hv
    go_wp2_with (go_at_call 48; refine (secateurlaw22_live.calls true _ (max_below HM.out hH.bel) rfl).mono ?_; rintro e w2 ⟨rfl, hd2⟩; replace hH := hH.below hd2)
    go_ret
    exact ⟨rfl, hH.bel⟩
  have e4 : decide ((v.size : Int) > 60) = false := decide_eq_false (by omega)
  have e5 : decide ((60 : Int) < (v.size : Int)) = false := decide_eq_false (by omega)
  have e6 : decide (60 < v.size) = false := decide_eq_false hv
  have hi : bl y ≠ [60, 99, 108, 105, 110, 105, 116, 62] := fun h => by
    have := HIB.out
    rw [ByteArray.toList_eq] at this
    have e : y.data.toList = [60, 99, 108, 105, 110, 105, 116, 62] := h
    rw [e] at this
    simp at this
  have hz := (plain_of slash_plain (l := bl x) HCB.out.symm).2.2
  have hz2 : (bl y).length ≤ 32 := by
    have ha := HNB.out
    unfold HandK.nameL HandK.initL at ha
    rw [decide_eq_false hi, Bool.false_or] at ha
    exact (plain_of letter_plain ha.symm).2.2
  rw [bl_len] at hz hz2
  have hiI : (⟨#[40, 41, 73]⟩ : ByteArray).size = 3 := rfl
  have hiV : (⟨#[40, 41, 86]⟩ : ByteArray).size = 3 := rfl
  have hi0 : (⟨#[]⟩ : ByteArray).size = 0 := rfl
  have K1 : Aside0 (∀ s W, s.size ≤ 1048576 → Calls Tryd.prog 58 #[.agg #[.bool n, .bool false, .string x, .string ⟨#[]⟩, .string ⟨#[]⟩], .string s] W fun e w' => e = .returned (.bool (s.toList == x.toList)) ∧ Below W.heap.size W w') := ⟨fun s W hs => rules_Class.calls n false x ⟨#[]⟩ ⟨#[]⟩ s _ W (by unfold rules_Class.f; rw [if_pos ⟨by omega, by omega, by omega, hs⟩, show bl ⟨#[]⟩ = [] from rfl, exactC n (bl x) (bl s) HCB.out.symm, eq_bl])⟩
  have K2 : Aside0 (∀ s W, s.size ≤ 1048576 → Calls Tryd.prog 60 #[.agg #[.bool n, .bool true, .string x, .string y, .string ⟨#[40, 41, 73]⟩], .string x, .string s, .string ⟨#[40, 41, 73]⟩] W fun e w' => e = .returned (.bool (s.toList == y.toList)) ∧ Below W.heap.size W w') := ⟨fun s W hs => rules_Member.calls n true x y ⟨#[40, 41, 73]⟩ x s ⟨#[40, 41, 73]⟩ _ W (by unfold rules_Member.f; rw [if_pos ⟨by omega, by omega, by omega, by omega, hs, by omega⟩, show bl ⟨#[40, 41, 73]⟩ = [40, 41, 73] from rfl, exactM n (bl x) (bl y) (bl x) (bl s) _ HCB.out.symm HNB.out.symm hi, eq_bl]; simp)⟩
  have K3 : Aside0 (∀ W, Calls Tryd.prog 60 #[.agg #[.bool n, .bool true, .string x, .string y, .string ⟨#[40, 41, 73]⟩], .string x, .string y, .string ⟨#[40, 41, 86]⟩] W fun e w' => e = .returned (.bool false) ∧ Below W.heap.size W w') := ⟨fun W => rules_Member.calls n true x y ⟨#[40, 41, 73]⟩ x y ⟨#[40, 41, 86]⟩ _ W (by unfold rules_Member.f; rw [if_pos ⟨by omega, by omega, by omega, by omega, by omega, by omega⟩, show bl ⟨#[40, 41, 73]⟩ = [40, 41, 73] from rfl, show bl ⟨#[40, 41, 86]⟩ = [40, 41, 86] from rfl, exactM n (bl x) (bl y) (bl x) (bl y) _ HCB.out.symm HNB.out.symm hi]; simp)⟩
  have K4 := Aside0.mk (fun W => Q21.rules_Exact.calls x n n false x ⟨#[]⟩ ⟨#[]⟩ W rfl)
  have K5 := Aside0.mk (fun W => Q21.rules_ExactMember.calls x y ⟨#[40, 41, 73]⟩ n n true x y ⟨#[40, 41, 73]⟩ W rfl)
  have HU : Aside0 (u.size ≤ 1048576 ∧ v.size ≤ 1048576 ∧ x.size ≤ 1048576 ∧ y.size ≤ 1048576) := ⟨by omega, by omega, by omega, by omega⟩
  clear hz hz2 hiI hiV hi0 hi hu hv
  go_wp2_with fail
  refine (K4.out _).mono ?_
  rintro e w2 ⟨rfl, hd3⟩
  replace hH := hH.below hd3
  clear o0 o1 e1 e2 e3 e4 e5 e6 hib'
  go_wp2_with fail
  replace hH := hH.add (Obj.cells #[.bool n, .bool false, .string x, .string ⟨#[]⟩, .string ⟨#[]⟩] 66)
  refine (K5.out _).mono ?_
  rintro e w3 ⟨rfl, hd4⟩
  replace hH := hH.below hd4
  go_wp2_with fail
  replace hH := hH.add (Obj.cells #[.bool n, .bool true, .string x, .string y, .string ⟨#[40, 41, 73]⟩] 66)
  replace hH := hH.below (below_drew1 (Below.refl _ _))
  go_region_held3 (fun w' => (w'.cell? ⟨w2.heap.size, 0, none⟩ = some (.bool n) ∧ w'.cell? ⟨w2.heap.size, 1, none⟩ = some (.bool false) ∧ w'.cell? ⟨w2.heap.size, 2, none⟩ = some (.string x) ∧ w'.cell? ⟨w2.heap.size, 3, none⟩ = some (.string ⟨#[]⟩) ∧ w'.cell? ⟨w2.heap.size, 4, none⟩ = some (.string ⟨#[]⟩)) ∧ (w'.cell? ⟨w3.heap.size, 0, none⟩ = some (.bool n) ∧ w'.cell? ⟨w3.heap.size, 1, none⟩ = some (.bool true) ∧ w'.cell? ⟨w3.heap.size, 2, none⟩ = some (.string x) ∧ w'.cell? ⟨w3.heap.size, 3, none⟩ = some (.string y) ∧ w'.cell? ⟨w3.heap.size, 4, none⟩ = some (.string ⟨#[40, 41, 73]⟩)) ∧ (w'.cell? ⟨w.heap.size + 1, 0, none⟩ = some (.string u) ∧ w'.cell? ⟨w.heap.size + 1, 1, none⟩ = some (.string v))) (exact ⟨cells5 (hH.all (w2.heap.size, Obj.cells #[.bool n, .bool false, .string x, .string ⟨#[]⟩, .string ⟨#[]⟩] 66) (by simp)), cells5 (hH.all (w3.heap.size, Obj.cells #[.bool n, .bool true, .string x, .string y, .string ⟨#[40, 41, 73]⟩] 66) (by simp)), cells2 (hH.all (w.heap.size + 1, Obj.cells #[.string u, .string v] 82) (by simp))⟩) (first
    | (go_at_call 48; refine (secateurlaw22_live.calls true _ (max_below HM.out hH.bel) rfl).mono ?_; rintro e w4 ⟨rfl, hd5⟩; replace hH := hH.below hd5)
    | (go_at_call_of 58 (Value.string u); refine (K1.out u _ HU.out.1).mono ?_; rintro e w4 ⟨rfl, hd5⟩; replace hH := hH.below hd5)
    | (go_at_call 58; refine (K1.out x _ HU.out.2.2.1).mono ?_; rintro e w4 ⟨rfl, hd5⟩; replace hH := hH.below hd5)
    | (go_at_call_of 60 (Value.string v); refine (K2.out v _ HU.out.2.1).mono ?_; rintro e w4 ⟨rfl, hd5⟩; replace hH := hH.below hd5)
    | (go_at_call_of 60 (Value.string ⟨#[40, 41, 86]⟩); refine (K3.out _).mono ?_; rintro e w4 ⟨rfl, hd5⟩; replace hH := hH.below hd5)
    | (go_at_call 60; refine (K2.out y _ HU.out.2.2.2).mono ?_; rintro e w4 ⟨rfl, hd5⟩; replace hH := hH.below hd5))
  go_wp2
  exact bodyPost_ret (results_tmp rfl _ _ _) rfl ⟨by simp, hH.bel⟩
end Go.Proofs.YtmlbfepibfobaaaDoor.Hand
end

section
/- Openings of arguments that are slices of strings. -/
namespace Go.Proofs.YtmlbfepibfobaaaDoor.Hand
open Go.ChangeShapes Go.WideShapes Go.ChangeAt Go.RowKit Go.Proofs.YtmlbfepibfobaaaDoorW.PrintWords Go.Proofs.YtmlbfepibfobaaaDoorW.PrintLast Go.Proofs.YtmlbfepibfobaaaDoorW.PrintMore
section
variable {H : Type} {enc : TypeId × Value → H} {P : Program} {w : World} {base : Nat} {spare : Nat → Bool} {held : Bool}
theorem open_strRow {r : Reach} {b0 : Nat} {t e : TypeId} {v : Value} {d : DataW H} {ps : List MemPlace} (ht : P.underlying t = some (.slice e)) (he : P.underlying e = some .string) (hc : P.cellsOf e = 1)
    (hval : Value.okWide P w r b0 t v) (hd : DataW.Trod enc P w base spare held t v d ps) :
    ∃ (A : Option Addr) (cap : Nat) (l : List ByteArray), v = .slice A l.length cap ∧ l.length ≤ cap ∧ Kd.C Kd.string w A l.length l ∧ l.length ≤ 9223372036854775807 := by
  obtain ⟨a, len, cap, rfl⟩ := okWide_slice ht hval
  obtain ⟨fuel, hf⟩ := hd
  rcases open_strings ht he hc hf with ⟨hcs, _⟩ | ⟨x, l, c, ss, hcs, _, hl, hm, hz, _, hcell, _⟩
  · simp [Value.cells] at hcs
    obtain ⟨rfl, rfl, rfl⟩ := hcs
    exact ⟨none, 0, [], rfl, Nat.le_refl _, Kd.C_nil _ _, by decide⟩
  · simp [Value.cells] at hcs
    obtain ⟨rfl, rfl, rfl⟩ := hcs
    have hls : len ≤ ss.length := by rw [hz]; split <;> omega
    have hlen : (ss.take len).length = len := by rw [List.length_take]; omega
    have hmx : len ≤ 9223372036854775807 := by unfold maxLen at hm; omega
    refine ⟨some x, cap, ss.take len, by rw [hlen], by rw [hlen]; exact hl, ?_, by rw [hlen]; exact hmx⟩
    rw [hlen]
    refine Kd.C_of_reads (d := ByteArray.empty) (h1 := fun _ => rfl) ⟨hlen, hmx, fun _ => ⟨x, rfl, fun j hj => ?_⟩⟩
    rw [hcell j (by omega)]
    congr 2
    simp [List.getD, hj]
end
end Go.Proofs.YtmlbfepibfobaaaDoor.Hand
end

section
/- Openings of arguments that are slices of rules (structs of five cells). -/
namespace Go.Proofs.YtmlbfepibfobaaaDoor.Hand
open Go.ChangeShapes Go.WideShapes Go.ChangeAt Go.Joins Go.Deep Go.RowKit Go.Proofs.YtmlbfepibfobaaaDoorW.PrintWords Go.Proofs.YtmlbfepibfobaaaDoorW.PrintLast Go.Proofs.YtmlbfepibfobaaaDoorW.PrintMore
theorem list_each {α : Type} {Q : Nat → α → Prop} : ∀ (n : Nat), (∀ i, i < n → ∃ a, Q i a) → ∃ l : List α, l.length = n ∧ ∀ i a, l[i]? = some a → Q i a
  | 0, _ => ⟨[], rfl, fun i a h => by simp at h⟩
  | n + 1, h => by
    obtain ⟨l, hl, hq⟩ := list_each n fun i hi => h i (by omega)
    obtain ⟨a, ha⟩ := h n (by omega)
    refine ⟨l ++ [a], by simp [hl], fun i b hb => ?_⟩
    by_cases hi : i < l.length
    · rw [List.getElem?_append_left hi] at hb
      exact hq i b hb
    · rw [List.getElem?_append_right (by omega)] at hb
      have h0 : i - l.length = 0 := by
        have := (List.getElem?_eq_some_iff.1 hb).1
        simp at this
        omega
      rw [h0] at hb
      simp at hb
      have : i = n := by omega
      rw [this, ← hb]
      exact ha
theorem add_add (a : Addr) (i j : Nat) : (a.add i).add j = a.add (i + j) := by
  unfold Addr.add
  by_cases hi : i = 0
  · subst hi; simp
  · by_cases hj : j = 0
    · subst hj; simp
    · rw [if_neg hi, if_neg hj, if_neg (by omega), Nat.add_assoc]
theorem cells_each {w : World} {base n : Nat} {a : Addr} {cs : List Value} (h : w.cells? base a n = some cs) : cs.length = n ∧ ∀ j u, cs[j]? = some u → w.cell? (a.add j) = some u := by
  unfold World.cells? at h
  split at h
  · have hl := mapM_some_length h
    rw [List.length_range] at hl
    refine ⟨hl, fun j u hu => ?_⟩
    have hj := (List.getElem?_eq_some_iff.1 hu).1
    have hg := mapM_some_get h j j (by rw [List.getElem?_range (by omega)])
    rw [hg, hu]
  · cases h
section
variable {H : Type} {enc : TypeId × Value → H} {P : Program} {w : World} {base : Nat} {spare : Nat → Bool} {held : Bool}
theorem weights_all {t : TypeId} : ∀ {l : List (DataW H)} {d : DataW H}, d ∈ l → ∀ n ∈ d.weights P t, n ∈ DataW.weightsAll P t l
  | a :: l, d, hd, n, hn => by
    simp only [DataW.weightsAll, List.mem_append]
    rcases List.mem_cons.1 hd with rfl | hd
    · exact .inl hn
    · exact .inr (weights_all hd n hn)
theorem open_rowsN {α : Type} (kd : Kd α) (Q : α → Prop) (sz : Nat) (hs : kd.sz = sz) {t e : TypeId} {v : Value} {d : DataW H} {ps : List MemPlace} {r : Reach} {b0 : Nat}
    (ht : P.underlying t = some (.slice e)) (hc : P.cellsOf e = sz) (hB : 1 ≤ P.bytesOf e)
    (mk : ∀ n cs x, DataW.trod enc P w base spare held n e cs = some x → (∀ m ∈ x.1.weights P e, m ≤ reachBytes) → ∃ a : α, kd.K w a cs ∧ Q a)
    (hw : ∀ n ∈ d.weights P t, n ≤ reachBytes)
    (hval : Value.okWide P w r b0 t v) (hd : DataW.Trod enc P w base spare held t v d ps) :
    ∃ (A : Option Addr) (cap : Nat) (l : List α), v = .slice A l.length cap ∧ l.length ≤ cap ∧ Kd.C kd w A l.length l ∧ l.length ≤ 140737488351232 ∧ ∀ x ∈ l, Q x := by
  obtain ⟨a, len, cap, rfl⟩ := okWide_slice ht hval
  obtain ⟨fuel, hf⟩ := hd
  rcases DataW.trod_slice ht hf with ⟨hcs, _⟩ | ⟨x, l, c, elems, rest, n, _, hcs, hx, hb, hl, hm, hlen, hel, _, _⟩
  · simp [Value.cells] at hcs
    obtain ⟨rfl, rfl, rfl⟩ := hcs
    exact ⟨none, 0, [], rfl, Nat.le_refl _, ⟨rfl, Nat.zero_le _, fun h => absurd h (Nat.lt_irrefl 0)⟩, Nat.zero_le _, by simp⟩
  · simp [Value.cells] at hcs
    obtain ⟨rfl, rfl, rfl⟩ := hcs
    obtain ⟨hx, _⟩ := Prod.mk.inj hx
    subst hx
    have hlw : len ≤ 140737488351232 := by
      have h1 := hw ((elems.map (·.1)).length * P.bytesOf e + (rest.map (·.1)).length * P.bytesOf e) (by simp [DataW.weights, ht, Nat.add_mul])
      rw [List.length_map, hlen] at h1
      have h2 : len * 1 ≤ len * P.bytesOf e := Nat.mul_le_mul_left _ hB
      have h3 : reachBytes = 140737488351232 := rfl
      omega
    have each : ∀ i, i < len → ∃ y : α, Q y ∧ ∃ cs : List Value, cs.length = sz ∧ kd.K w y cs ∧ ∀ j u, cs[j]? = some u → w.cell? (x.add (i * sz + j)) = some u := by
      intro i hi
      have h1 := hel i hi
      have hi2 : i < elems.length := by omega
      rw [List.getElem?_eq_getElem hi2, hc, Option.bind_eq_some_iff] at h1
      obtain ⟨cs, h2, h3⟩ := h1
      obtain ⟨y, h4, h5⟩ := mk _ _ _ h3 (fun m hm => hw m (by
        simp only [DataW.weights, ht, List.mem_cons, List.mem_append]
        exact .inr (.inl (weights_all (List.mem_map_of_mem (List.getElem_mem hi2)) m hm))))
      obtain ⟨h6, h7⟩ := cells_each h2
      refine ⟨y, h5, cs, h6, h4, fun j z hz => ?_⟩
      have h8 := h7 j z hz
      rw [add_add] at h8
      exact h8
    obtain ⟨ls, hls, hq⟩ := list_each len each
    have hmx : len ≤ 9223372036854775807 := by omega
    refine ⟨some x, cap, ls, by rw [hls], by rw [hls]; exact hl, ⟨rfl, by rw [hls]; exact hmx, fun _ => ⟨x, rfl, fun j p hp => ?_⟩⟩, by rw [hls]; exact hlw, fun y hy => ?_⟩
    · obtain ⟨_, cs, h1, h2, h3⟩ := hq j p hp
      exact ⟨cs, by rw [hs]; exact h1, h2, fun i u hu => by rw [hs]; exact h3 i u hu⟩
    · obtain ⟨i, hi⟩ := List.getElem?_of_mem hy
      exact (hq i y hi).1
theorem mk_rule {e : TypeId} {f0 f1 f2 f3 f4 : Field} (he : P.underlying e = some (.struct #[f0, f1, f2, f3, f4])) (hc : P.cellsOf e = 5)
    (o0 : f0.offset = 0) (o1 : f1.offset = 1) (o2 : f2.offset = 2) (o3 : f3.offset = 3) (o4 : f4.offset = 4)
    (z0 : P.cellsOf f0.type = 1) (z1 : P.cellsOf f1.type = 1) (z2 : P.cellsOf f2.type = 1) (z3 : P.cellsOf f3.type = 1) (z4 : P.cellsOf f4.type = 1)
    (h0 : P.underlying f0.type = some .bool) (h1 : P.underlying f1.type = some .bool) (h2 : P.underlying f2.type = some .string) (h3 : P.underlying f3.type = some .string) (h4 : P.underlying f4.type = some .string)
    (n : Nat) (cs : List Value) (x : DataW H × List MemPlace) (h : DataW.trod enc P w base spare held n e cs = some x) (hwt : ∀ m ∈ x.1.weights P e, m ≤ reachBytes) :
    ∃ a : S66, k66.K w a cs ∧ a.f2.size ≤ 140737488351232 ∧ a.f3.size ≤ 140737488351232 ∧ a.f4.size ≤ 140737488351232 := by
  obtain ⟨xs, m, _, hx, hl, hlen, hf⟩ := DataW.trod_struct he h
  rw [hc] at hl
  have g0 := hf 0 f0 rfl
  have g1 := hf 1 f1 rfl
  have g2 := hf 2 f2 rfl
  have g3 := hf 3 f3 rfl
  have g4 := hf 4 f4 rfl
  rw [o0, z0] at g0
  rw [o1, z1] at g1
  rw [o2, z2] at g2
  rw [o3, z3] at g3
  rw [o4, z4] at g4
  match cs, hl, xs, hlen with
  | [c0, c1, c2, c3, c4], _, [y0, y1, y2, y3, y4], _ =>
    obtain ⟨b0, hb0, e0⟩ := DataW.trod_bool h0 g0
    obtain ⟨b1, hb1, e1⟩ := DataW.trod_bool h1 g1
    obtain ⟨s2, hs2, e2, _⟩ := DataW.trod_string h2 g2
    obtain ⟨s3, hs3, e3, _⟩ := DataW.trod_string h3 g3
    obtain ⟨s4, hs4, e4, _⟩ := DataW.trod_string h4 g4
    simp at hb0 hb1 hs2 hs3 hs4
    subst hb0 hb1 hs2 hs3 hs4 e0 e1 e2 e3 e4 hx
    have w2 := hwt s2.data.toList.length (by simp [DataW.weights, he, DataW.weightsEach])
    have w3 := hwt s3.data.toList.length (by simp [DataW.weights, he, DataW.weightsEach])
    have w4 := hwt s4.data.toList.length (by simp [DataW.weights, he, DataW.weightsEach])
    rw [Array.length_toList] at w2 w3 w4
    exact ⟨⟨b0, b1, s2, s3, s4⟩, k66_mk w ⟨b0, b1, s2, s3, s4⟩, w2, w3, w4⟩
end
end Go.Proofs.YtmlbfepibfobaaaDoor.Hand
end

section
/- Openings of arguments: a rule by value, arrays of two and of three texts. -/
namespace Go.Proofs.YtmlbfepibfobaaaDoor.Hand
open Go.ChangeShapes Go.WideShapes Go.ChangeAt Go.Joins Go.Deep Go.RowKit Go.Proofs.YtmlbfepibfobaaaDoorW.PrintWords Go.Proofs.YtmlbfepibfobaaaDoorW.PrintLast Go.Proofs.YtmlbfepibfobaaaDoorW.PrintMore
section
variable {H : Type} {enc : TypeId × Value → H} {P : Program} {w : World} {base : Nat} {spare : Nat → Bool} {held : Bool}
theorem arr_ok {r : Reach} {b0 : Nat} {t e : TypeId} {n : Nat} {v : Value} (ht : P.underlying t = some (.array n e)) (h : Value.okWide P w r b0 t v) : ∃ cs, v = .agg cs ∧ cs.size = P.cellsOf t := by
  simp only [Value.okWide, ht] at h
  obtain ⟨cs, h1, h2, _⟩ := h
  exact ⟨cs, h1, h2⟩
theorem str_cell {e : TypeId} (he : P.underlying e = some .string) {fuel : Nat} {c : Value} {y : DataW H × List MemPlace} (h : DataW.trod enc P w base spare held fuel e [c] = some y) (hw : ∀ n ∈ y.1.weights P e, n ≤ reachBytes) : ∃ s : ByteArray, c = .string s ∧ s.size ≤ 140737488351232 := by
  obtain ⟨s, hs, hy, hz⟩ := DataW.trod_string he h
  simp at hs
  subst hs hy
  have h2 := hw s.data.toList.length (by simp [DataW.weights])
  rw [Array.length_toList] at h2
  exact ⟨s, rfl, h2⟩
theorem open_strs3 {r : Reach} {b0 : Nat} {t e : TypeId} {v : Value} {d : DataW H} {ps : List MemPlace} (ht : P.underlying t = some (.array 3 e)) (he : P.underlying e = some .string) (hce : P.cellsOf e = 1) (hct : P.cellsOf t = 3)
    (hw : ∀ n ∈ d.weights P t, n ≤ reachBytes) (hval : Value.okWide P w r b0 t v) (hd : DataW.Trod enc P w base spare held t v d ps) :
    ∃ a b c : ByteArray, v = .agg #[.string a, .string b, .string c] ∧ a.size ≤ 140737488351232 ∧ b.size ≤ 140737488351232 ∧ c.size ≤ 140737488351232 := by
  obtain ⟨cs, rfl, hs⟩ := arr_ok ht hval
  obtain ⟨fuel, hf⟩ := hd
  rw [hct] at hs
  match cs, hs with
  | ⟨[x0, x1, x2]⟩, _ =>
    obtain ⟨xs, m, _, hx, _, hl, hi⟩ := DataW.trod_array ht hf
    rw [hce] at hi
    match xs, hl with
    | [y0, y1, y2], _ =>
      have g0 := hi 0 (by decide)
      have g1 := hi 1 (by decide)
      have g2 := hi 2 (by decide)
      simp [Value.cells] at g0 g1 g2
      have hd := (Prod.mk.inj hx).1
      subst hd
      have hw' : ∀ y ∈ [y0, y1, y2], ∀ n ∈ y.1.weights P e, n ≤ reachBytes := fun y hy n hn => hw n (by
        simp only [DataW.weights, ht]
        exact weights_all (List.mem_map_of_mem hy) n hn)
      obtain ⟨a, rfl, za⟩ := str_cell he g0 (hw' y0 (by simp))
      obtain ⟨b, rfl, zb⟩ := str_cell he g1 (hw' y1 (by simp))
      obtain ⟨c, rfl, zc⟩ := str_cell he g2 (hw' y2 (by simp))
      exact ⟨a, b, c, rfl, za, zb, zc⟩
theorem open_strs2 {r : Reach} {b0 : Nat} {t e : TypeId} {v : Value} {d : DataW H} {ps : List MemPlace} (ht : P.underlying t = some (.array 2 e)) (he : P.underlying e = some .string) (hce : P.cellsOf e = 1) (hct : P.cellsOf t = 2)
    (hw : ∀ n ∈ d.weights P t, n ≤ reachBytes) (hval : Value.okWide P w r b0 t v) (hd : DataW.Trod enc P w base spare held t v d ps) :
    ∃ a b : ByteArray, v = .agg #[.string a, .string b] ∧ a.size ≤ 140737488351232 ∧ b.size ≤ 140737488351232 := by
  obtain ⟨cs, rfl, hs⟩ := arr_ok ht hval
  obtain ⟨fuel, hf⟩ := hd
  rw [hct] at hs
  match cs, hs with
  | ⟨[x0, x1]⟩, _ =>
    obtain ⟨xs, m, _, hx, _, hl, hi⟩ := DataW.trod_array ht hf
    rw [hce] at hi
    match xs, hl with
    | [y0, y1], _ =>
      have g0 := hi 0 (by decide)
      have g1 := hi 1 (by decide)
      simp [Value.cells] at g0 g1
      have hd := (Prod.mk.inj hx).1
      subst hd
      have hw' : ∀ y ∈ [y0, y1], ∀ n ∈ y.1.weights P e, n ≤ reachBytes := fun y hy n hn => hw n (by
        simp only [DataW.weights, ht]
        exact weights_all (List.mem_map_of_mem hy) n hn)
      obtain ⟨a, rfl, za⟩ := str_cell he g0 (hw' y0 (by simp))
      obtain ⟨b, rfl, zb⟩ := str_cell he g1 (hw' y1 (by simp))
      exact ⟨a, b, rfl, za, zb⟩
theorem open_ruleArg {r : Reach} {b0 : Nat} {t : TypeId} {f0 f1 f2 f3 f4 : Field} {v : Value} {d : DataW H} {ps : List MemPlace} (he : P.underlying t = some (.struct #[f0, f1, f2, f3, f4]))
    (mk : ∀ n cs x, DataW.trod enc P w base spare held n t cs = some x → (∀ m ∈ x.1.weights P t, m ≤ reachBytes) → ∃ a : S66, k66.K w a cs ∧ a.f2.size ≤ 140737488351232 ∧ a.f3.size ≤ 140737488351232 ∧ a.f4.size ≤ 140737488351232)
    (hw : ∀ n ∈ d.weights P t, n ≤ reachBytes) (hval : Value.okWide P w r b0 t v) (hd : DataW.Trod enc P w base spare held t v d ps) :
    ∃ (n m : Bool) (c a e : ByteArray), v = .agg #[.bool n, .bool m, .string c, .string a, .string e] ∧ c.size ≤ 140737488351232 ∧ a.size ≤ 140737488351232 ∧ e.size ≤ 140737488351232 := by
  obtain ⟨cs, rfl, hs⟩ := okWide_struct he hval
  obtain ⟨fuel, hf⟩ := hd
  obtain ⟨x, hK, hz⟩ := mk _ _ _ hf hw
  have e := k66_open hK
  refine ⟨x.f0, x.f1, x.f2, x.f3, x.f4, ?_, hz⟩
  obtain ⟨l⟩ := cs
  have e' : l = [.bool x.f0, .bool x.f1, .string x.f2, .string x.f3, .string x.f4] := e
  rw [e']
end
end Go.Proofs.YtmlbfepibfobaaaDoor.Hand
end
