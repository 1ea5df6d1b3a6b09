import Derived.Test.YtmlbfepibfobaaaDoorMgRulesTexts3
import Derived.Test.YtmlbfepibfobaaaDoorMgRulesTexts1
import Derived.RangeFuncRecord
import Derived.Deep.RegionHeld3
import Derived.Deep.RegionWith
import Derived.Test.YtmlbfepibfobaaaDoorProg
import Derived.Below
import Derived.Deep.Draws
import Derived.Deep.AppendLies
import Derived.Maps.AppendAt
import Derived.OwnWalk
import Derived.Laws.BytesArg
import Derived.Laws.MakeOwn
import Derived.Laws.OwnMore
import Derived.Deep.OwnRows
import Derived.Tactics
import Derived.Lib.ConvBytes
import Derived.Laws.Slices
import Derived.WalkKit
import Derived.KernelRfl
import Derived.RowKit3
import Derived.Deep.LoopGhost
import Derived.Deep.QuietTactic
import Derived.BigQuiet
import Derived.WideLaws
import Derived.Deep.DeepCutAuto
import Derived.Deep.CutBlock
import Derived.Laws.Rows
import Derived.Lib.AppendStr
import Derived.ArgAppend
import Derived.Laws.IdiomCopy
import Derived.OrdersHeld
import Derived.Laws.BitsLemmas
import Derived.RowKit
import Derived.Test.YtmlbfepibfobaaaDoorMgRulesTexts0
import Derived.Test.YtmlbfepibfobaaaDoorMgRulesTexts2
section
namespace Go.Proofs.YtmlbfepibfobaaaDoor.Q17
open Go.RowKit Go.Proofs.YtmlbfepibfobaaaDoorW.PrintWords Go.Proofs.YtmlbfepibfobaaaDoorW.PrintLast Go.Proofs.YtmlbfepibfobaaaDoorW.PrintMore Go.Proofs.YtmlbfepibfobaaaDoor.Hand
attribute [local go_sem] max2_int min2_int max_two min_two max_three min_three max_four min_four   -- for this text's walks alone
set_option linter.unusedVariables false
set_option linter.unusedSimpArgs false
def secateurref22_line.f (a0_0 : Bool) (a0_1 : Bool) (a0_2 : ByteArray) (a0_3 : ByteArray) (a0_4 : ByteArray) : Option (ByteArray) := if a0_0 = true then (if a0_1 = true then (if 9 + 7 ≤ 9223372036854775807 then (if 16 + a0_2.size ≤ 9223372036854775807 then (if (((⟨#[107, 101, 101, 112, 110, 97, 109, 101, 32]⟩ : ByteArray) ++ (⟨#[109, 101, 109, 98, 101, 114, 32]⟩ : ByteArray)) ++ a0_2).size + 1 ≤ 9223372036854775807 then (if ((((⟨#[107, 101, 101, 112, 110, 97, 109, 101, 32]⟩ : ByteArray) ++ (⟨#[109, 101, 109, 98, 101, 114, 32]⟩ : ByteArray)) ++ a0_2) ++ (⟨#[32]⟩ : ByteArray)).size + a0_3.size ≤ 9223372036854775807 then (if (((((⟨#[107, 101, 101, 112, 110, 97, 109, 101, 32]⟩ : ByteArray) ++ (⟨#[109, 101, 109, 98, 101, 114, 32]⟩ : ByteArray)) ++ a0_2) ++ (⟨#[32]⟩ : ByteArray)) ++ a0_3).size + 1 ≤ 9223372036854775807 then (if ((((((⟨#[107, 101, 101, 112, 110, 97, 109, 101, 32]⟩ : ByteArray) ++ (⟨#[109, 101, 109, 98, 101, 114, 32]⟩ : ByteArray)) ++ a0_2) ++ (⟨#[32]⟩ : ByteArray)) ++ a0_3) ++ (⟨#[32]⟩ : ByteArray)).size + a0_4.size ≤ 9223372036854775807 then (some (((((((⟨#[107, 101, 101, 112, 110, 97, 109, 101, 32]⟩ : ByteArray) ++ (⟨#[109, 101, 109, 98, 101, 114, 32]⟩ : ByteArray)) ++ a0_2) ++ (⟨#[32]⟩ : ByteArray)) ++ a0_3) ++ (⟨#[32]⟩ : ByteArray)) ++ a0_4)) else (none)) else (none)) else (none)) else (none)) else (none)) else (none)) else (if 9 + 6 ≤ 9223372036854775807 then (if 15 + a0_2.size ≤ 9223372036854775807 then (some (((⟨#[107, 101, 101, 112, 110, 97, 109, 101, 32]⟩ : ByteArray) ++ (⟨#[99, 108, 97, 115, 115, 32]⟩ : ByteArray)) ++ a0_2)) else (none)) else (none))) else (if a0_1 = true then (if 5 + 7 ≤ 9223372036854775807 then (if 12 + a0_2.size ≤ 9223372036854775807 then (if (((⟨#[107, 101, 101, 112, 32]⟩ : ByteArray) ++ (⟨#[109, 101, 109, 98, 101, 114, 32]⟩ : ByteArray)) ++ a0_2).size + 1 ≤ 9223372036854775807 then (if ((((⟨#[107, 101, 101, 112, 32]⟩ : ByteArray) ++ (⟨#[109, 101, 109, 98, 101, 114, 32]⟩ : ByteArray)) ++ a0_2) ++ (⟨#[32]⟩ : ByteArray)).size + a0_3.size ≤ 9223372036854775807 then (if (((((⟨#[107, 101, 101, 112, 32]⟩ : ByteArray) ++ (⟨#[109, 101, 109, 98, 101, 114, 32]⟩ : ByteArray)) ++ a0_2) ++ (⟨#[32]⟩ : ByteArray)) ++ a0_3).size + 1 ≤ 9223372036854775807 then (if ((((((⟨#[107, 101, 101, 112, 32]⟩ : ByteArray) ++ (⟨#[109, 101, 109, 98, 101, 114, 32]⟩ : ByteArray)) ++ a0_2) ++ (⟨#[32]⟩ : ByteArray)) ++ a0_3) ++ (⟨#[32]⟩ : ByteArray)).size + a0_4.size ≤ 9223372036854775807 then (some (((((((⟨#[107, 101, 101, 112, 32]⟩ : ByteArray) ++ (⟨#[109, 101, 109, 98, 101, 114, 32]⟩ : ByteArray)) ++ a0_2) ++ (⟨#[32]⟩ : ByteArray)) ++ a0_3) ++ (⟨#[32]⟩ : ByteArray)) ++ a0_4)) else (none)) else (none)) else (none)) else (none)) else (none)) else (none)) else (if 5 + 6 ≤ 9223372036854775807 then (if 11 + a0_2.size ≤ 9223372036854775807 then (some (((⟨#[107, 101, 101, 112, 32]⟩ : ByteArray) ++ (⟨#[99, 108, 97, 115, 115, 32]⟩ : ByteArray)) ++ a0_2)) else (none)) else (none)))
set_option maxHeartbeats 8000000 in
set_option maxRecDepth 100000 in
theorem secateurref22_line.calls (a0_0 : Bool) (a0_1 : Bool) (a0_2 : ByteArray) (a0_3 : ByteArray) (a0_4 : ByteArray) (r : ByteArray) (w : World) (h : secateurref22_line.f a0_0 a0_1 a0_2 a0_3 a0_4 = some r) :
    Calls Tryd.prog 109 #[.agg #[.bool a0_0, .bool a0_1, .string a0_2, .string a0_3, .string a0_4]] w fun e w' => e = .returned (.string r) ∧ Below w.heap.size w w' := by
  have hu66 := Tryd.underlying66
  have HB := Aside0.mk (Below.refl w.heap.size w)
  have H : (if a0_0 = true then (if a0_1 = true then (if 9 + 7 ≤ 9223372036854775807 then (if 16 + a0_2.size ≤ 9223372036854775807 then (if (((⟨#[107, 101, 101, 112, 110, 97, 109, 101, 32]⟩ : ByteArray) ++ (⟨#[109, 101, 109, 98, 101, 114, 32]⟩ : ByteArray)) ++ a0_2).size + 1 ≤ 9223372036854775807 then (if ((((⟨#[107, 101, 101, 112, 110, 97, 109, 101, 32]⟩ : ByteArray) ++ (⟨#[109, 101, 109, 98, 101, 114, 32]⟩ : ByteArray)) ++ a0_2) ++ (⟨#[32]⟩ : ByteArray)).size + a0_3.size ≤ 9223372036854775807 then (if (((((⟨#[107, 101, 101, 112, 110, 97, 109, 101, 32]⟩ : ByteArray) ++ (⟨#[109, 101, 109, 98, 101, 114, 32]⟩ : ByteArray)) ++ a0_2) ++ (⟨#[32]⟩ : ByteArray)) ++ a0_3).size + 1 ≤ 9223372036854775807 then (if ((((((⟨#[107, 101, 101, 112, 110, 97, 109, 101, 32]⟩ : ByteArray) ++ (⟨#[109, 101, 109, 98, 101, 114, 32]⟩ : ByteArray)) ++ a0_2) ++ (⟨#[32]⟩ : ByteArray)) ++ a0_3) ++ (⟨#[32]⟩ : ByteArray)).size + a0_4.size ≤ 9223372036854775807 then (some (((((((⟨#[107, 101, 101, 112, 110, 97, 109, 101, 32]⟩ : ByteArray) ++ (⟨#[109, 101, 109, 98, 101, 114, 32]⟩ : ByteArray)) ++ a0_2) ++ (⟨#[32]⟩ : ByteArray)) ++ a0_3) ++ (⟨#[32]⟩ : ByteArray)) ++ a0_4)) else (none)) else (none)) else (none)) else (none)) else (none)) else (none)) else (if 9 + 6 ≤ 9223372036854775807 then (if 15 + a0_2.size ≤ 9223372036854775807 then (some (((⟨#[107, 101, 101, 112, 110, 97, 109, 101, 32]⟩ : ByteArray) ++ (⟨#[99, 108, 97, 115, 115, 32]⟩ : ByteArray)) ++ a0_2)) else (none)) else (none))) else (if a0_1 = true then (if 5 + 7 ≤ 9223372036854775807 then (if 12 + a0_2.size ≤ 9223372036854775807 then (if (((⟨#[107, 101, 101, 112, 32]⟩ : ByteArray) ++ (⟨#[109, 101, 109, 98, 101, 114, 32]⟩ : ByteArray)) ++ a0_2).size + 1 ≤ 9223372036854775807 then (if ((((⟨#[107, 101, 101, 112, 32]⟩ : ByteArray) ++ (⟨#[109, 101, 109, 98, 101, 114, 32]⟩ : ByteArray)) ++ a0_2) ++ (⟨#[32]⟩ : ByteArray)).size + a0_3.size ≤ 9223372036854775807 then (if (((((⟨#[107, 101, 101, 112, 32]⟩ : ByteArray) ++ (⟨#[109, 101, 109, 98, 101, 114, 32]⟩ : ByteArray)) ++ a0_2) ++ (⟨#[32]⟩ : ByteArray)) ++ a0_3).size + 1 ≤ 9223372036854775807 then (if ((((((⟨#[107, 101, 101, 112, 32]⟩ : ByteArray) ++ (⟨#[109, 101, 109, 98, 101, 114, 32]⟩ : ByteArray)) ++ a0_2) ++ (⟨#[32]⟩ : ByteArray)) ++ a0_3) ++ (⟨#[32]⟩ : ByteArray)).size + a0_4.size ≤ 9223372036854775807 then (some (((((((⟨#[107, 101, 101, 112, 32]⟩ : ByteArray) ++ (⟨#[109, 101, 109, 98, 101, 114, 32]⟩ : ByteArray)) ++ a0_2) ++ (⟨#[32]⟩ : ByteArray)) ++ a0_3) ++ (⟨#[32]⟩ : ByteArray)) ++ a0_4)) else (none)) else (none)) else (none)) else (none)) else (none)) else (none)) else (if 5 + 6 ≤ 9223372036854775807 then (if 11 + a0_2.size ≤ 9223372036854775807 then (some (((⟨#[107, 101, 101, 112, 32]⟩ : ByteArray) ++ (⟨#[99, 108, 97, 115, 115, 32]⟩ : ByteArray)) ++ a0_2)) else (none)) else (none)))) = some r := h
  clear h
  by_cases c2 : a0_0 = true
  · subst c2
    have H1 : (if a0_1 = true then (if 9 + 7 ≤ 9223372036854775807 then (if 16 + a0_2.size ≤ 9223372036854775807 then (if (((⟨#[107, 101, 101, 112, 110, 97, 109, 101, 32]⟩ : ByteArray) ++ (⟨#[109, 101, 109, 98, 101, 114, 32]⟩ : ByteArray)) ++ a0_2).size + 1 ≤ 9223372036854775807 then (if ((((⟨#[107, 101, 101, 112, 110, 97, 109, 101, 32]⟩ : ByteArray) ++ (⟨#[109, 101, 109, 98, 101, 114, 32]⟩ : ByteArray)) ++ a0_2) ++ (⟨#[32]⟩ : ByteArray)).size + a0_3.size ≤ 9223372036854775807 then (if (((((⟨#[107, 101, 101, 112, 110, 97, 109, 101, 32]⟩ : ByteArray) ++ (⟨#[109, 101, 109, 98, 101, 114, 32]⟩ : ByteArray)) ++ a0_2) ++ (⟨#[32]⟩ : ByteArray)) ++ a0_3).size + 1 ≤ 9223372036854775807 then (if ((((((⟨#[107, 101, 101, 112, 110, 97, 109, 101, 32]⟩ : ByteArray) ++ (⟨#[109, 101, 109, 98, 101, 114, 32]⟩ : ByteArray)) ++ a0_2) ++ (⟨#[32]⟩ : ByteArray)) ++ a0_3) ++ (⟨#[32]⟩ : ByteArray)).size + a0_4.size ≤ 9223372036854775807 then (some (((((((⟨#[107, 101, 101, 112, 110, 97, 109, 101, 32]⟩ : ByteArray) ++ (⟨#[109, 101, 109, 98, 101, 114, 32]⟩ : ByteArray)) ++ a0_2) ++ (⟨#[32]⟩ : ByteArray)) ++ a0_3) ++ (⟨#[32]⟩ : ByteArray)) ++ a0_4)) else (none)) else (none)) else (none)) else (none)) else (none)) else (none)) else (if 9 + 6 ≤ 9223372036854775807 then (if 15 + a0_2.size ≤ 9223372036854775807 then (some (((⟨#[107, 101, 101, 112, 110, 97, 109, 101, 32]⟩ : ByteArray) ++ (⟨#[99, 108, 97, 115, 115, 32]⟩ : ByteArray)) ++ a0_2)) else (none)) else (none))) = some r := by rw [if_pos rfl] at H; exact H
    clear H
    have H := H1
    clear H1
    by_cases c3 : a0_1 = true
    · subst c3
      have H1 : (if 9 + 7 ≤ 9223372036854775807 then (if 16 + a0_2.size ≤ 9223372036854775807 then (if (((⟨#[107, 101, 101, 112, 110, 97, 109, 101, 32]⟩ : ByteArray) ++ (⟨#[109, 101, 109, 98, 101, 114, 32]⟩ : ByteArray)) ++ a0_2).size + 1 ≤ 9223372036854775807 then (if ((((⟨#[107, 101, 101, 112, 110, 97, 109, 101, 32]⟩ : ByteArray) ++ (⟨#[109, 101, 109, 98, 101, 114, 32]⟩ : ByteArray)) ++ a0_2) ++ (⟨#[32]⟩ : ByteArray)).size + a0_3.size ≤ 9223372036854775807 then (if (((((⟨#[107, 101, 101, 112, 110, 97, 109, 101, 32]⟩ : ByteArray) ++ (⟨#[109, 101, 109, 98, 101, 114, 32]⟩ : ByteArray)) ++ a0_2) ++ (⟨#[32]⟩ : ByteArray)) ++ a0_3).size + 1 ≤ 9223372036854775807 then (if ((((((⟨#[107, 101, 101, 112, 110, 97, 109, 101, 32]⟩ : ByteArray) ++ (⟨#[109, 101, 109, 98, 101, 114, 32]⟩ : ByteArray)) ++ a0_2) ++ (⟨#[32]⟩ : ByteArray)) ++ a0_3) ++ (⟨#[32]⟩ : ByteArray)).size + a0_4.size ≤ 9223372036854775807 then (some (((((((⟨#[107, 101, 101, 112, 110, 97, 109, 101, 32]⟩ : ByteArray) ++ (⟨#[109, 101, 109, 98, 101, 114, 32]⟩ : ByteArray)) ++ a0_2) ++ (⟨#[32]⟩ : ByteArray)) ++ a0_3) ++ (⟨#[32]⟩ : ByteArray)) ++ a0_4)) else (none)) else (none)) else (none)) else (none)) else (none)) else (none)) = some r := by rw [if_pos rfl] at H; exact H
      clear H
      have H := H1
      clear H1
      by_cases c4 : 9 + 7 ≤ 9223372036854775807
      · rw [if_pos c4] at H
        have c4b0 := eq_true c4
        have c4b1 : decide (9 + 7 ≤ 9223372036854775807) = true := decide_eq_true c4
        try have c4b2 : (9223372036854775807 < 9 + 7) = False := eq_false (Nat.not_lt.2 c4)
        by_cases c5 : 16 + a0_2.size ≤ 9223372036854775807
        · rw [if_pos c5] at H
          have c5b0 := eq_true c5
          have c5b1 : decide (16 + a0_2.size ≤ 9223372036854775807) = true := decide_eq_true c5
          try have c5b2 : (9223372036854775807 < 16 + a0_2.size) = False := eq_false (Nat.not_lt.2 c5)
          by_cases c6 : (((⟨#[107, 101, 101, 112, 110, 97, 109, 101, 32]⟩ : ByteArray) ++ (⟨#[109, 101, 109, 98, 101, 114, 32]⟩ : ByteArray)) ++ a0_2).size + 1 ≤ 9223372036854775807
          · rw [if_pos c6] at H
            have c6b0 := eq_true c6
            have c6b1 : decide ((((⟨#[107, 101, 101, 112, 110, 97, 109, 101, 32]⟩ : ByteArray) ++ (⟨#[109, 101, 109, 98, 101, 114, 32]⟩ : ByteArray)) ++ a0_2).size + 1 ≤ 9223372036854775807) = true := decide_eq_true c6
            try have c6b2 : (9223372036854775807 < (((⟨#[107, 101, 101, 112, 110, 97, 109, 101, 32]⟩ : ByteArray) ++ (⟨#[109, 101, 109, 98, 101, 114, 32]⟩ : ByteArray)) ++ a0_2).size + 1) = False := eq_false (Nat.not_lt.2 c6)
            try have c6b3 : (9223372036854775807 < (16 + a0_2.size) + 1) = False := eq_false (Nat.not_lt.2 (by have h_ := c6; simp only [ByteArray.size_append] at h_; exact h_))
            try have c6b4 : (9223372036854775807 < 16 + a0_2.size) = False := eq_false (Nat.not_lt.2 (Nat.le_trans (Nat.le_add_right _ _) (show (16 + a0_2.size) + 1 ≤ 9223372036854775807 from by have h_ := c6; simp only [ByteArray.size_append] at h_; exact h_)))
            by_cases c7 : ((((⟨#[107, 101, 101, 112, 110, 97, 109, 101, 32]⟩ : ByteArray) ++ (⟨#[109, 101, 109, 98, 101, 114, 32]⟩ : ByteArray)) ++ a0_2) ++ (⟨#[32]⟩ : ByteArray)).size + a0_3.size ≤ 9223372036854775807
            · rw [if_pos c7] at H
              have c7b0 := eq_true c7
              have c7b1 : decide (((((⟨#[107, 101, 101, 112, 110, 97, 109, 101, 32]⟩ : ByteArray) ++ (⟨#[109, 101, 109, 98, 101, 114, 32]⟩ : ByteArray)) ++ a0_2) ++ (⟨#[32]⟩ : ByteArray)).size + a0_3.size ≤ 9223372036854775807) = true := decide_eq_true c7
              try have c7b2 : (9223372036854775807 < ((((⟨#[107, 101, 101, 112, 110, 97, 109, 101, 32]⟩ : ByteArray) ++ (⟨#[109, 101, 109, 98, 101, 114, 32]⟩ : ByteArray)) ++ a0_2) ++ (⟨#[32]⟩ : ByteArray)).size + a0_3.size) = False := eq_false (Nat.not_lt.2 c7)
              try have c7b3 : (9223372036854775807 < (16 + a0_2.size + 1) + a0_3.size) = False := eq_false (Nat.not_lt.2 (by have h_ := c7; simp only [ByteArray.size_append] at h_; exact h_))
              try have c7b4 : (9223372036854775807 < 16 + a0_2.size + 1) = False := eq_false (Nat.not_lt.2 (Nat.le_trans (Nat.le_add_right _ _) (show (16 + a0_2.size + 1) + a0_3.size ≤ 9223372036854775807 from by have h_ := c7; simp only [ByteArray.size_append] at h_; exact h_)))
              by_cases c8 : (((((⟨#[107, 101, 101, 112, 110, 97, 109, 101, 32]⟩ : ByteArray) ++ (⟨#[109, 101, 109, 98, 101, 114, 32]⟩ : ByteArray)) ++ a0_2) ++ (⟨#[32]⟩ : ByteArray)) ++ a0_3).size + 1 ≤ 9223372036854775807
              · rw [if_pos c8] at H
                have c8b0 := eq_true c8
                have c8b1 : decide ((((((⟨#[107, 101, 101, 112, 110, 97, 109, 101, 32]⟩ : ByteArray) ++ (⟨#[109, 101, 109, 98, 101, 114, 32]⟩ : ByteArray)) ++ a0_2) ++ (⟨#[32]⟩ : ByteArray)) ++ a0_3).size + 1 ≤ 9223372036854775807) = true := decide_eq_true c8
                try have c8b2 : (9223372036854775807 < (((((⟨#[107, 101, 101, 112, 110, 97, 109, 101, 32]⟩ : ByteArray) ++ (⟨#[109, 101, 109, 98, 101, 114, 32]⟩ : ByteArray)) ++ a0_2) ++ (⟨#[32]⟩ : ByteArray)) ++ a0_3).size + 1) = False := eq_false (Nat.not_lt.2 c8)
                try have c8b3 : (9223372036854775807 < (16 + a0_2.size + 1 + a0_3.size) + 1) = False := eq_false (Nat.not_lt.2 (by have h_ := c8; simp only [ByteArray.size_append] at h_; exact h_))
                try have c8b4 : (9223372036854775807 < 16 + a0_2.size + 1 + a0_3.size) = False := eq_false (Nat.not_lt.2 (Nat.le_trans (Nat.le_add_right _ _) (show (16 + a0_2.size + 1 + a0_3.size) + 1 ≤ 9223372036854775807 from by have h_ := c8; simp only [ByteArray.size_append] at h_; exact h_)))
                by_cases c9 : ((((((⟨#[107, 101, 101, 112, 110, 97, 109, 101, 32]⟩ : ByteArray) ++ (⟨#[109, 101, 109, 98, 101, 114, 32]⟩ : ByteArray)) ++ a0_2) ++ (⟨#[32]⟩ : ByteArray)) ++ a0_3) ++ (⟨#[32]⟩ : ByteArray)).size + a0_4.size ≤ 9223372036854775807
                · rw [if_pos c9] at H
                  have c9b0 := eq_true c9
                  have c9b1 : decide (((((((⟨#[107, 101, 101, 112, 110, 97, 109, 101, 32]⟩ : ByteArray) ++ (⟨#[109, 101, 109, 98, 101, 114, 32]⟩ : ByteArray)) ++ a0_2) ++ (⟨#[32]⟩ : ByteArray)) ++ a0_3) ++ (⟨#[32]⟩ : ByteArray)).size + a0_4.size ≤ 9223372036854775807) = true := decide_eq_true c9
                  try have c9b2 : (9223372036854775807 < ((((((⟨#[107, 101, 101, 112, 110, 97, 109, 101, 32]⟩ : ByteArray) ++ (⟨#[109, 101, 109, 98, 101, 114, 32]⟩ : ByteArray)) ++ a0_2) ++ (⟨#[32]⟩ : ByteArray)) ++ a0_3) ++ (⟨#[32]⟩ : ByteArray)).size + a0_4.size) = False := eq_false (Nat.not_lt.2 c9)
                  try have c9b3 : (9223372036854775807 < (16 + a0_2.size + 1 + a0_3.size + 1) + a0_4.size) = False := eq_false (Nat.not_lt.2 (by have h_ := c9; simp only [ByteArray.size_append] at h_; exact h_))
                  try have c9b4 : (9223372036854775807 < 16 + a0_2.size + 1 + a0_3.size + 1) = False := eq_false (Nat.not_lt.2 (Nat.le_trans (Nat.le_add_right _ _) (show (16 + a0_2.size + 1 + a0_3.size + 1) + a0_4.size ≤ 9223372036854775807 from by have h_ := c9; simp only [ByteArray.size_append] at h_; exact h_)))
                  obtain rfl := Option.some.inj H
                  go_enter Tryd.func109, Tryd.ntmps109
                  go_wp2_with (first | ((with_reducible refine gate_dst (N := 1) rfl ?_); refine box_event ?hg (N := 1) ?hd (cs := #[.bool true, .bool true, .string a0_2, .string a0_3, .string a0_4]) (t := 66) ?hr ?_; (case hd => rfl); (case hg => rfl); (case hr => first | (go_simp; done) | (go_simp; rfl)); intro gb101 hg w10 hbox hb; have n0_ := Aside0.mk (below_step (by repeat (first | (with_reducible first | exact HB.out | apply below_alloc | apply pw_below_drewN | apply below_drew1) | exact HB.out)) hb); have n1_ := Aside0.mk (hbox); have n2_ := Aside0.mk ((by rw [hg]; exact (below_size (by repeat (first | (with_reducible first | exact HB.out | apply below_alloc | apply pw_below_drewN | apply below_drew1) | exact HB.out))) : w.heap.size ≤ gb101)); have n3_ := Aside0.mk ((by rw [hg]; exact (below_size (by repeat (first | (with_reducible first | exact HB.out | apply below_alloc | apply pw_below_drewN | apply below_drew1) | exact HB.out))) : w.heap.size ≤ gb101)); clear HB; have HB := n0_; have BK101 := n1_; have GW101 := n2_; have GE101 := n3_; clear n0_ n1_ n2_ n3_; clear hb hbox hg; have hcz11_0 : w10.cell? ⟨gb101, 0, none⟩ = some (.bool true) := (blk_cell BK101.out 0).trans rfl; have hcz11_1 : w10.cell? ⟨gb101, 1, none⟩ = some (.bool true) := (blk_cell BK101.out 1).trans rfl; have hcz11_2 : w10.cell? ⟨gb101, 2, none⟩ = some (.string a0_2) := (blk_cell BK101.out 2).trans rfl; have hcz11_3 : w10.cell? ⟨gb101, 3, none⟩ = some (.string a0_3) := (blk_cell BK101.out 3).trans rfl; have hcz11_4 : w10.cell? ⟨gb101, 4, none⟩ = some (.string a0_4) := (blk_cell BK101.out 4).trans rfl; have hfz11_0 := blk_frozen BK101.out 0; have hfz11_1 := blk_frozen BK101.out 1; have hfz11_2 := blk_frozen BK101.out 2; have hfz11_3 := blk_frozen BK101.out 3; have hfz11_4 := blk_frozen BK101.out 4))
                  go_ret
                  exact ⟨by first | rfl | (simp [errW_none, errW_some] <;> rfl) | (simp [*, errW_none, errW_some] <;> rfl), by repeat (first | (with_reducible first | exact HB.out | apply below_alloc | apply pw_below_drewN | apply below_drew1 | refine below_set ?_ GE101.out) | exact HB.out)⟩
                · rw [if_neg c9] at H
                  exact absurd H (by simp)
              · rw [if_neg c8] at H
                exact absurd H (by simp)
            · rw [if_neg c7] at H
              exact absurd H (by simp)
          · rw [if_neg c6] at H
            exact absurd H (by simp)
        · rw [if_neg c5] at H
          exact absurd H (by simp)
      · rw [if_neg c4] at H
        exact absurd H (by simp)
    · replace c3 := Bool.eq_false_iff.mpr c3
      subst c3
      have H1 : (if 9 + 6 ≤ 9223372036854775807 then (if 15 + a0_2.size ≤ 9223372036854775807 then (some (((⟨#[107, 101, 101, 112, 110, 97, 109, 101, 32]⟩ : ByteArray) ++ (⟨#[99, 108, 97, 115, 115, 32]⟩ : ByteArray)) ++ a0_2)) else (none)) else (none)) = some r := by rw [if_neg (show ¬ (false = true) by decide)] at H; exact H
      clear H
      have H := H1
      clear H1
      by_cases c12 : 9 + 6 ≤ 9223372036854775807
      · rw [if_pos c12] at H
        have c12b0 := eq_true c12
        have c12b1 : decide (9 + 6 ≤ 9223372036854775807) = true := decide_eq_true c12
        try have c12b2 : (9223372036854775807 < 9 + 6) = False := eq_false (Nat.not_lt.2 c12)
        by_cases c13 : 15 + a0_2.size ≤ 9223372036854775807
        · rw [if_pos c13] at H
          have c13b0 := eq_true c13
          have c13b1 : decide (15 + a0_2.size ≤ 9223372036854775807) = true := decide_eq_true c13
          try have c13b2 : (9223372036854775807 < 15 + a0_2.size) = False := eq_false (Nat.not_lt.2 c13)
          obtain rfl := Option.some.inj H
          go_enter Tryd.func109, Tryd.ntmps109
          go_wp2_with (first | ((with_reducible refine gate_dst (N := 1) rfl ?_); refine box_event ?hg (N := 1) ?hd (cs := #[.bool true, .bool false, .string a0_2, .string a0_3, .string a0_4]) (t := 66) ?hr ?_; (case hd => rfl); (case hg => rfl); (case hr => first | (go_simp; done) | (go_simp; rfl)); intro gb101 hg w14 hbox hb; have n0_ := Aside0.mk (below_step (by repeat (first | (with_reducible first | exact HB.out | apply below_alloc | apply pw_below_drewN | apply below_drew1) | exact HB.out)) hb); have n1_ := Aside0.mk (hbox); have n2_ := Aside0.mk ((by rw [hg]; exact (below_size (by repeat (first | (with_reducible first | exact HB.out | apply below_alloc | apply pw_below_drewN | apply below_drew1) | exact HB.out))) : w.heap.size ≤ gb101)); have n3_ := Aside0.mk ((by rw [hg]; exact (below_size (by repeat (first | (with_reducible first | exact HB.out | apply below_alloc | apply pw_below_drewN | apply below_drew1) | exact HB.out))) : w.heap.size ≤ gb101)); clear HB; have HB := n0_; have BK101 := n1_; have GW101 := n2_; have GE101 := n3_; clear n0_ n1_ n2_ n3_; clear hb hbox hg; have hcz15_0 : w14.cell? ⟨gb101, 0, none⟩ = some (.bool true) := (blk_cell BK101.out 0).trans rfl; have hcz15_1 : w14.cell? ⟨gb101, 1, none⟩ = some (.bool false) := (blk_cell BK101.out 1).trans rfl; have hcz15_2 : w14.cell? ⟨gb101, 2, none⟩ = some (.string a0_2) := (blk_cell BK101.out 2).trans rfl; have hcz15_3 : w14.cell? ⟨gb101, 3, none⟩ = some (.string a0_3) := (blk_cell BK101.out 3).trans rfl; have hcz15_4 : w14.cell? ⟨gb101, 4, none⟩ = some (.string a0_4) := (blk_cell BK101.out 4).trans rfl; have hfz15_0 := blk_frozen BK101.out 0; have hfz15_1 := blk_frozen BK101.out 1; have hfz15_2 := blk_frozen BK101.out 2; have hfz15_3 := blk_frozen BK101.out 3; have hfz15_4 := blk_frozen BK101.out 4))
          go_ret
          exact ⟨by first | rfl | (simp [errW_none, errW_some] <;> rfl) | (simp [*, errW_none, errW_some] <;> rfl), by repeat (first | (with_reducible first | exact HB.out | apply below_alloc | apply pw_below_drewN | apply below_drew1 | refine below_set ?_ GE101.out) | exact HB.out)⟩
        · rw [if_neg c13] at H
          exact absurd H (by simp)
      · rw [if_neg c12] at H
        exact absurd H (by simp)
  · replace c2 := Bool.eq_false_iff.mpr c2
    subst c2
    have H1 : (if a0_1 = true then (if 5 + 7 ≤ 9223372036854775807 then (if 12 + a0_2.size ≤ 9223372036854775807 then (if (((⟨#[107, 101, 101, 112, 32]⟩ : ByteArray) ++ (⟨#[109, 101, 109, 98, 101, 114, 32]⟩ : ByteArray)) ++ a0_2).size + 1 ≤ 9223372036854775807 then (if ((((⟨#[107, 101, 101, 112, 32]⟩ : ByteArray) ++ (⟨#[109, 101, 109, 98, 101, 114, 32]⟩ : ByteArray)) ++ a0_2) ++ (⟨#[32]⟩ : ByteArray)).size + a0_3.size ≤ 9223372036854775807 then (if (((((⟨#[107, 101, 101, 112, 32]⟩ : ByteArray) ++ (⟨#[109, 101, 109, 98, 101, 114, 32]⟩ : ByteArray)) ++ a0_2) ++ (⟨#[32]⟩ : ByteArray)) ++ a0_3).size + 1 ≤ 9223372036854775807 then (if ((((((⟨#[107, 101, 101, 112, 32]⟩ : ByteArray) ++ (⟨#[109, 101, 109, 98, 101, 114, 32]⟩ : ByteArray)) ++ a0_2) ++ (⟨#[32]⟩ : ByteArray)) ++ a0_3) ++ (⟨#[32]⟩ : ByteArray)).size + a0_4.size ≤ 9223372036854775807 then (some (((((((⟨#[107, 101, 101, 112, 32]⟩ : ByteArray) ++ (⟨#[109, 101, 109, 98, 101, 114, 32]⟩ : ByteArray)) ++ a0_2) ++ (⟨#[32]⟩ : ByteArray)) ++ a0_3) ++ (⟨#[32]⟩ : ByteArray)) ++ a0_4)) else (none)) else (none)) else (none)) else (none)) else (none)) else (none)) else (if 5 + 6 ≤ 9223372036854775807 then (if 11 + a0_2.size ≤ 9223372036854775807 then (some (((⟨#[107, 101, 101, 112, 32]⟩ : ByteArray) ++ (⟨#[99, 108, 97, 115, 115, 32]⟩ : ByteArray)) ++ a0_2)) else (none)) else (none))) = some r := by rw [if_neg (show ¬ (false = true) by decide)] at H; exact H
    clear H
    have H := H1
    clear H1
    by_cases c16 : a0_1 = true
    · subst c16
      have H1 : (if 5 + 7 ≤ 9223372036854775807 then (if 12 + a0_2.size ≤ 9223372036854775807 then (if (((⟨#[107, 101, 101, 112, 32]⟩ : ByteArray) ++ (⟨#[109, 101, 109, 98, 101, 114, 32]⟩ : ByteArray)) ++ a0_2).size + 1 ≤ 9223372036854775807 then (if ((((⟨#[107, 101, 101, 112, 32]⟩ : ByteArray) ++ (⟨#[109, 101, 109, 98, 101, 114, 32]⟩ : ByteArray)) ++ a0_2) ++ (⟨#[32]⟩ : ByteArray)).size + a0_3.size ≤ 9223372036854775807 then (if (((((⟨#[107, 101, 101, 112, 32]⟩ : ByteArray) ++ (⟨#[109, 101, 109, 98, 101, 114, 32]⟩ : ByteArray)) ++ a0_2) ++ (⟨#[32]⟩ : ByteArray)) ++ a0_3).size + 1 ≤ 9223372036854775807 then (if ((((((⟨#[107, 101, 101, 112, 32]⟩ : ByteArray) ++ (⟨#[109, 101, 109, 98, 101, 114, 32]⟩ : ByteArray)) ++ a0_2) ++ (⟨#[32]⟩ : ByteArray)) ++ a0_3) ++ (⟨#[32]⟩ : ByteArray)).size + a0_4.size ≤ 9223372036854775807 then (some (((((((⟨#[107, 101, 101, 112, 32]⟩ : ByteArray) ++ (⟨#[109, 101, 109, 98, 101, 114, 32]⟩ : ByteArray)) ++ a0_2) ++ (⟨#[32]⟩ : ByteArray)) ++ a0_3) ++ (⟨#[32]⟩ : ByteArray)) ++ a0_4)) else (none)) else (none)) else (none)) else (none)) else (none)) else (none)) = some r := by rw [if_pos rfl] at H; exact H
      clear H
      have H := H1
      clear H1
      by_cases c17 : 5 + 7 ≤ 9223372036854775807
      · rw [if_pos c17] at H
        have c17b0 := eq_true c17
        have c17b1 : decide (5 + 7 ≤ 9223372036854775807) = true := decide_eq_true c17
        try have c17b2 : (9223372036854775807 < 5 + 7) = False := eq_false (Nat.not_lt.2 c17)
        by_cases c18 : 12 + a0_2.size ≤ 9223372036854775807
        · rw [if_pos c18] at H
          have c18b0 := eq_true c18
          have c18b1 : decide (12 + a0_2.size ≤ 9223372036854775807) = true := decide_eq_true c18
          try have c18b2 : (9223372036854775807 < 12 + a0_2.size) = False := eq_false (Nat.not_lt.2 c18)
          by_cases c19 : (((⟨#[107, 101, 101, 112, 32]⟩ : ByteArray) ++ (⟨#[109, 101, 109, 98, 101, 114, 32]⟩ : ByteArray)) ++ a0_2).size + 1 ≤ 9223372036854775807
          · rw [if_pos c19] at H
            have c19b0 := eq_true c19
            have c19b1 : decide ((((⟨#[107, 101, 101, 112, 32]⟩ : ByteArray) ++ (⟨#[109, 101, 109, 98, 101, 114, 32]⟩ : ByteArray)) ++ a0_2).size + 1 ≤ 9223372036854775807) = true := decide_eq_true c19
            try have c19b2 : (9223372036854775807 < (((⟨#[107, 101, 101, 112, 32]⟩ : ByteArray) ++ (⟨#[109, 101, 109, 98, 101, 114, 32]⟩ : ByteArray)) ++ a0_2).size + 1) = False := eq_false (Nat.not_lt.2 c19)
            try have c19b3 : (9223372036854775807 < (12 + a0_2.size) + 1) = False := eq_false (Nat.not_lt.2 (by have h_ := c19; simp only [ByteArray.size_append] at h_; exact h_))
            try have c19b4 : (9223372036854775807 < 12 + a0_2.size) = False := eq_false (Nat.not_lt.2 (Nat.le_trans (Nat.le_add_right _ _) (show (12 + a0_2.size) + 1 ≤ 9223372036854775807 from by have h_ := c19; simp only [ByteArray.size_append] at h_; exact h_)))
            by_cases c20 : ((((⟨#[107, 101, 101, 112, 32]⟩ : ByteArray) ++ (⟨#[109, 101, 109, 98, 101, 114, 32]⟩ : ByteArray)) ++ a0_2) ++ (⟨#[32]⟩ : ByteArray)).size + a0_3.size ≤ 9223372036854775807
            · rw [if_pos c20] at H
              have c20b0 := eq_true c20
              have c20b1 : decide (((((⟨#[107, 101, 101, 112, 32]⟩ : ByteArray) ++ (⟨#[109, 101, 109, 98, 101, 114, 32]⟩ : ByteArray)) ++ a0_2) ++ (⟨#[32]⟩ : ByteArray)).size + a0_3.size ≤ 9223372036854775807) = true := decide_eq_true c20
              try have c20b2 : (9223372036854775807 < ((((⟨#[107, 101, 101, 112, 32]⟩ : ByteArray) ++ (⟨#[109, 101, 109, 98, 101, 114, 32]⟩ : ByteArray)) ++ a0_2) ++ (⟨#[32]⟩ : ByteArray)).size + a0_3.size) = False := eq_false (Nat.not_lt.2 c20)
              try have c20b3 : (9223372036854775807 < (12 + a0_2.size + 1) + a0_3.size) = False := eq_false (Nat.not_lt.2 (by have h_ := c20; simp only [ByteArray.size_append] at h_; exact h_))
              try have c20b4 : (9223372036854775807 < 12 + a0_2.size + 1) = False := eq_false (Nat.not_lt.2 (Nat.le_trans (Nat.le_add_right _ _) (show (12 + a0_2.size + 1) + a0_3.size ≤ 9223372036854775807 from by have h_ := c20; simp only [ByteArray.size_append] at h_; exact h_)))
              by_cases c21 : (((((⟨#[107, 101, 101, 112, 32]⟩ : ByteArray) ++ (⟨#[109, 101, 109, 98, 101, 114, 32]⟩ : ByteArray)) ++ a0_2) ++ (⟨#[32]⟩ : ByteArray)) ++ a0_3).size + 1 ≤ 9223372036854775807
              · rw [if_pos c21] at H
                have c21b0 := eq_true c21
                have c21b1 : decide ((((((⟨#[107, 101, 101, 112, 32]⟩ : ByteArray) ++ (⟨#[109, 101, 109, 98, 101, 114, 32]⟩ : ByteArray)) ++ a0_2) ++ (⟨#[32]⟩ : ByteArray)) ++ a0_3).size + 1 ≤ 9223372036854775807) = true := decide_eq_true c21
                try have c21b2 : (9223372036854775807 < (((((⟨#[107, 101, 101, 112, 32]⟩ : ByteArray) ++ (⟨#[109, 101, 109, 98, 101, 114, 32]⟩ : ByteArray)) ++ a0_2) ++ (⟨#[32]⟩ : ByteArray)) ++ a0_3).size + 1) = False := eq_false (Nat.not_lt.2 c21)
                try have c21b3 : (9223372036854775807 < (12 + a0_2.size + 1 + a0_3.size) + 1) = False := eq_false (Nat.not_lt.2 (by have h_ := c21; simp only [ByteArray.size_append] at h_; exact h_))
                try have c21b4 : (9223372036854775807 < 12 + a0_2.size + 1 + a0_3.size) = False := eq_false (Nat.not_lt.2 (Nat.le_trans (Nat.le_add_right _ _) (show (12 + a0_2.size + 1 + a0_3.size) + 1 ≤ 9223372036854775807 from by have h_ := c21; simp only [ByteArray.size_append] at h_; exact h_)))
                by_cases c22 : ((((((⟨#[107, 101, 101, 112, 32]⟩ : ByteArray) ++ (⟨#[109, 101, 109, 98, 101, 114, 32]⟩ : ByteArray)) ++ a0_2) ++ (⟨#[32]⟩ : ByteArray)) ++ a0_3) ++ (⟨#[32]⟩ : ByteArray)).size + a0_4.size ≤ 9223372036854775807
                · rw [if_pos c22] at H
                  have c22b0 := eq_true c22
                  have c22b1 : decide (((((((⟨#[107, 101, 101, 112, 32]⟩ : ByteArray) ++ (⟨#[109, 101, 109, 98, 101, 114, 32]⟩ : ByteArray)) ++ a0_2) ++ (⟨#[32]⟩ : ByteArray)) ++ a0_3) ++ (⟨#[32]⟩ : ByteArray)).size + a0_4.size ≤ 9223372036854775807) = true := decide_eq_true c22
                  try have c22b2 : (9223372036854775807 < ((((((⟨#[107, 101, 101, 112, 32]⟩ : ByteArray) ++ (⟨#[109, 101, 109, 98, 101, 114, 32]⟩ : ByteArray)) ++ a0_2) ++ (⟨#[32]⟩ : ByteArray)) ++ a0_3) ++ (⟨#[32]⟩ : ByteArray)).size + a0_4.size) = False := eq_false (Nat.not_lt.2 c22)
                  try have c22b3 : (9223372036854775807 < (12 + a0_2.size + 1 + a0_3.size + 1) + a0_4.size) = False := eq_false (Nat.not_lt.2 (by have h_ := c22; simp only [ByteArray.size_append] at h_; exact h_))
                  try have c22b4 : (9223372036854775807 < 12 + a0_2.size + 1 + a0_3.size + 1) = False := eq_false (Nat.not_lt.2 (Nat.le_trans (Nat.le_add_right _ _) (show (12 + a0_2.size + 1 + a0_3.size + 1) + a0_4.size ≤ 9223372036854775807 from by have h_ := c22; simp only [ByteArray.size_append] at h_; exact h_)))
                  obtain rfl := Option.some.inj H
                  go_enter Tryd.func109, Tryd.ntmps109
                  go_wp2_with (first | ((with_reducible refine gate_dst (N := 1) rfl ?_); refine box_event ?hg (N := 1) ?hd (cs := #[.bool false, .bool true, .string a0_2, .string a0_3, .string a0_4]) (t := 66) ?hr ?_; (case hd => rfl); (case hg => rfl); (case hr => first | (go_simp; done) | (go_simp; rfl)); intro gb101 hg w23 hbox hb; have n0_ := Aside0.mk (below_step (by repeat (first | (with_reducible first | exact HB.out | apply below_alloc | apply pw_below_drewN | apply below_drew1) | exact HB.out)) hb); have n1_ := Aside0.mk (hbox); have n2_ := Aside0.mk ((by rw [hg]; exact (below_size (by repeat (first | (with_reducible first | exact HB.out | apply below_alloc | apply pw_below_drewN | apply below_drew1) | exact HB.out))) : w.heap.size ≤ gb101)); have n3_ := Aside0.mk ((by rw [hg]; exact (below_size (by repeat (first | (with_reducible first | exact HB.out | apply below_alloc | apply pw_below_drewN | apply below_drew1) | exact HB.out))) : w.heap.size ≤ gb101)); clear HB; have HB := n0_; have BK101 := n1_; have GW101 := n2_; have GE101 := n3_; clear n0_ n1_ n2_ n3_; clear hb hbox hg; have hcz24_0 : w23.cell? ⟨gb101, 0, none⟩ = some (.bool false) := (blk_cell BK101.out 0).trans rfl; have hcz24_1 : w23.cell? ⟨gb101, 1, none⟩ = some (.bool true) := (blk_cell BK101.out 1).trans rfl; have hcz24_2 : w23.cell? ⟨gb101, 2, none⟩ = some (.string a0_2) := (blk_cell BK101.out 2).trans rfl; have hcz24_3 : w23.cell? ⟨gb101, 3, none⟩ = some (.string a0_3) := (blk_cell BK101.out 3).trans rfl; have hcz24_4 : w23.cell? ⟨gb101, 4, none⟩ = some (.string a0_4) := (blk_cell BK101.out 4).trans rfl; have hfz24_0 := blk_frozen BK101.out 0; have hfz24_1 := blk_frozen BK101.out 1; have hfz24_2 := blk_frozen BK101.out 2; have hfz24_3 := blk_frozen BK101.out 3; have hfz24_4 := blk_frozen BK101.out 4))
                  go_ret
                  exact ⟨by first | rfl | (simp [errW_none, errW_some] <;> rfl) | (simp [*, errW_none, errW_some] <;> rfl), by repeat (first | (with_reducible first | exact HB.out | apply below_alloc | apply pw_below_drewN | apply below_drew1 | refine below_set ?_ GE101.out) | exact HB.out)⟩
                · rw [if_neg c22] at H
                  exact absurd H (by simp)
              · rw [if_neg c21] at H
                exact absurd H (by simp)
            · rw [if_neg c20] at H
              exact absurd H (by simp)
          · rw [if_neg c19] at H
            exact absurd H (by simp)
        · rw [if_neg c18] at H
          exact absurd H (by simp)
      · rw [if_neg c17] at H
        exact absurd H (by simp)
    · replace c16 := Bool.eq_false_iff.mpr c16
      subst c16
      have H1 : (if 5 + 6 ≤ 9223372036854775807 then (if 11 + a0_2.size ≤ 9223372036854775807 then (some (((⟨#[107, 101, 101, 112, 32]⟩ : ByteArray) ++ (⟨#[99, 108, 97, 115, 115, 32]⟩ : ByteArray)) ++ a0_2)) else (none)) else (none)) = some r := by rw [if_neg (show ¬ (false = true) by decide)] at H; exact H
      clear H
      have H := H1
      clear H1
      by_cases c25 : 5 + 6 ≤ 9223372036854775807
      · rw [if_pos c25] at H
        have c25b0 := eq_true c25
        have c25b1 : decide (5 + 6 ≤ 9223372036854775807) = true := decide_eq_true c25
        try have c25b2 : (9223372036854775807 < 5 + 6) = False := eq_false (Nat.not_lt.2 c25)
        by_cases c26 : 11 + a0_2.size ≤ 9223372036854775807
        · rw [if_pos c26] at H
          have c26b0 := eq_true c26
          have c26b1 : decide (11 + a0_2.size ≤ 9223372036854775807) = true := decide_eq_true c26
          try have c26b2 : (9223372036854775807 < 11 + a0_2.size) = False := eq_false (Nat.not_lt.2 c26)
          obtain rfl := Option.some.inj H
          go_enter Tryd.func109, Tryd.ntmps109
          go_wp2_with (first | ((with_reducible refine gate_dst (N := 1) rfl ?_); refine box_event ?hg (N := 1) ?hd (cs := #[.bool false, .bool false, .string a0_2, .string a0_3, .string a0_4]) (t := 66) ?hr ?_; (case hd => rfl); (case hg => rfl); (case hr => first | (go_simp; done) | (go_simp; rfl)); intro gb101 hg w27 hbox hb; have n0_ := Aside0.mk (below_step (by repeat (first | (with_reducible first | exact HB.out | apply below_alloc | apply pw_below_drewN | apply below_drew1) | exact HB.out)) hb); have n1_ := Aside0.mk (hbox); have n2_ := Aside0.mk ((by rw [hg]; exact (below_size (by repeat (first | (with_reducible first | exact HB.out | apply below_alloc | apply pw_below_drewN | apply below_drew1) | exact HB.out))) : w.heap.size ≤ gb101)); have n3_ := Aside0.mk ((by rw [hg]; exact (below_size (by repeat (first | (with_reducible first | exact HB.out | apply below_alloc | apply pw_below_drewN | apply below_drew1) | exact HB.out))) : w.heap.size ≤ gb101)); clear HB; have HB := n0_; have BK101 := n1_; have GW101 := n2_; have GE101 := n3_; clear n0_ n1_ n2_ n3_; clear hb hbox hg; have hcz28_0 : w27.cell? ⟨gb101, 0, none⟩ = some (.bool false) := (blk_cell BK101.out 0).trans rfl; have hcz28_1 : w27.cell? ⟨gb101, 1, none⟩ = some (.bool false) := (blk_cell BK101.out 1).trans rfl; have hcz28_2 : w27.cell? ⟨gb101, 2, none⟩ = some (.string a0_2) := (blk_cell BK101.out 2).trans rfl; have hcz28_3 : w27.cell? ⟨gb101, 3, none⟩ = some (.string a0_3) := (blk_cell BK101.out 3).trans rfl; have hcz28_4 : w27.cell? ⟨gb101, 4, none⟩ = some (.string a0_4) := (blk_cell BK101.out 4).trans rfl; have hfz28_0 := blk_frozen BK101.out 0; have hfz28_1 := blk_frozen BK101.out 1; have hfz28_2 := blk_frozen BK101.out 2; have hfz28_3 := blk_frozen BK101.out 3; have hfz28_4 := blk_frozen BK101.out 4))
          go_ret
          exact ⟨by first | rfl | (simp [errW_none, errW_some] <;> rfl) | (simp [*, errW_none, errW_some] <;> rfl), by repeat (first | (with_reducible first | exact HB.out | apply below_alloc | apply pw_below_drewN | apply below_drew1 | refine below_set ?_ GE101.out) | exact HB.out)⟩
        · rw [if_neg c26] at H
          exact absurd H (by simp)
      · rw [if_neg c25] at H
        exact absurd H (by simp)
end Go.Proofs.YtmlbfepibfobaaaDoor.Q17
end

section
namespace Go.Proofs.YtmlbfepibfobaaaDoor.Q17
open Go.RowKit Go.Proofs.YtmlbfepibfobaaaDoorW.PrintWords Go.Proofs.YtmlbfepibfobaaaDoorW.PrintLast Go.Proofs.YtmlbfepibfobaaaDoorW.PrintMore
attribute [local go_sem] max2_int min2_int max_two min_two max_three min_three max_four min_four   -- for this text's walks alone
set_option linter.unusedVariables false
set_option linter.unusedSimpArgs false
end Go.Proofs.YtmlbfepibfobaaaDoor.Q17
end

section
namespace Go.Proofs.YtmlbfepibfobaaaDoor.Hand
open Go.RowKit Go.Proofs.YtmlbfepibfobaaaDoorW.PrintWords Go.Proofs.YtmlbfepibfobaaaDoorW.PrintLast Go.Proofs.YtmlbfepibfobaaaDoorW.PrintMore
set_option linter.unusedVariables false
set_option linter.unusedSimpArgs false
theorem lineD_eq (n m : Bool) (c a d : ByteArray) (hc : c.size ≤ 1048576) (ha : a.size ≤ 1048576) (hd : d.size ≤ 1048576) : Q17.secateurref22_line.f n m c a d = some (lb (lineR (n, m, bl c, bl a, bl d))) := by
  have z : ∀ x y : ByteArray, (x ++ y).size = x.size + y.size := fun x y => ByteArray.size_append
  have e1 : (⟨#[107, 101, 101, 112, 110, 97, 109, 101, 32]⟩ : ByteArray).size = 9 := rfl
  have e2 : (⟨#[107, 101, 101, 112, 32]⟩ : ByteArray).size = 5 := rfl
  have e3 : (⟨#[109, 101, 109, 98, 101, 114, 32]⟩ : ByteArray).size = 7 := rfl
  have e4 : (⟨#[99, 108, 97, 115, 115, 32]⟩ : ByteArray).size = 6 := rfl
  have e5 : (⟨#[32]⟩ : ByteArray).size = 1 := rfl
  unfold Q17.secateurref22_line.f
  simp only [z, e1, e2, e3, e4, e5]
  unfold lineR
  cases n with
  | true =>
    cases m with
    | true =>
      rw [if_pos rfl, if_pos rfl, if_pos (by omega), if_pos (by omega), if_pos (by omega), if_pos (by omega), if_pos (by omega), if_pos (by omega)]
      congr 1
      apply bl_inj
      simp only [bl_append, bl_lb, wordsR, if_true, lineL, List.append_assoc]
      rfl
    | false =>
      rw [if_pos rfl, if_neg (by decide), if_pos (by omega), if_pos (by omega)]
      congr 1
  | false =>
    cases m with
    | true =>
      rw [if_neg (by decide), if_pos rfl, if_pos (by omega), if_pos (by omega), if_pos (by omega), if_pos (by omega), if_pos (by omega), if_pos (by omega)]
      congr 1
      apply bl_inj
      simp only [bl_append, bl_lb, wordsR, Bool.false_eq_true, if_false, if_true, lineL, List.append_assoc]
      rfl
    | false =>
      rw [if_neg (by decide), if_neg (by decide), if_pos (by omega), if_pos (by omega)]
      congr 1
def secateurref22_line.f (n m : Bool) (c a d : ByteArray) : Option ByteArray := if c.size ≤ 1048576 ∧ a.size ≤ 1048576 ∧ d.size ≤ 1048576 then some (lb (lineR (n, m, bl c, bl a, bl d))) else none
theorem secateurref22_line.calls (a0_0 : Bool) (a0_1 : Bool) (a0_2 : ByteArray) (a0_3 : ByteArray) (a0_4 : ByteArray) (r : ByteArray) (w : World) (h : secateurref22_line.f a0_0 a0_1 a0_2 a0_3 a0_4 = some r) :
    Calls Tryd.prog 109 #[.agg #[.bool a0_0, .bool a0_1, .string a0_2, .string a0_3, .string a0_4]] w fun e w' => e = .returned (.string r) ∧ Below w.heap.size w w' := by
  unfold secateurref22_line.f at h
  split at h
  · rename_i hs
    exact Q17.secateurref22_line.calls a0_0 a0_1 a0_2 a0_3 a0_4 r w ((lineD_eq a0_0 a0_1 a0_2 a0_3 a0_4 hs.1 hs.2.1 hs.2.2).trans h)
  · cases h
end Go.Proofs.YtmlbfepibfobaaaDoor.Hand
end

section
namespace Go.Proofs.YtmlbfepibfobaaaDoor.Hand
open Go.RowKit Go.Proofs.YtmlbfepibfobaaaDoorW.PrintWords Go.Proofs.YtmlbfepibfobaaaDoorW.PrintLast Go.Proofs.YtmlbfepibfobaaaDoorW.PrintMore
set_option linter.unusedVariables false
set_option linter.unusedSimpArgs false
structure RM (w0 w : World) (R S : Nat) (o1 o2 : Obj) : Prop where
  r : w.heap[R]? = some o1
  s : w.heap[S]? = some o2
  bel : Below w0.heap.size w0 w
theorem RM.below {w0 w w' : World} {R S : Nat} {o1 o2 : Obj} (h : RM w0 w R S o1 o2) (hb : Below w.heap.size w w') : RM w0 w' R S o1 o2 := ⟨blk_below h.r hb, blk_below h.s hb, below_step h.bel hb⟩
theorem cells5 {w : World} {g : Nat} {t : TypeId} {x y z u v : Value} (h : w.heap[g]? = some (Obj.cells #[x, y, z, u, v] t (0, 0))) : w.cell? ⟨g, 0, none⟩ = some x ∧ w.cell? ⟨g, 1, none⟩ = some y ∧ w.cell? ⟨g, 2, none⟩ = some z ∧ w.cell? ⟨g, 3, none⟩ = some u ∧ w.cell? ⟨g, 4, none⟩ = some v := by
  have c0 := blk_cell h 0
  have c1 := blk_cell h 1
  have c2 := blk_cell h 2
  have c3 := blk_cell h 3
  have c4 := blk_cell h 4
  simp only [List.getElem?_toArray, List.getElem?_cons_zero, List.getElem?_cons_succ] at c0 c1 c2 c3 c4
  exact ⟨c0, c1, c2, c3, c4⟩
end Go.Proofs.YtmlbfepibfobaaaDoor.Hand
end

section
namespace Go.Proofs.YtmlbfepibfobaaaDoor.Hand
open Go.RowKit Go.Proofs.YtmlbfepibfobaaaDoorW.PrintWords Go.Proofs.YtmlbfepibfobaaaDoorW.PrintLast Go.Proofs.YtmlbfepibfobaaaDoorW.PrintMore
set_option linter.unusedVariables false
set_option linter.unusedSimpArgs false
theorem set5_far {w : World} {D R : Nat} {o : Obj} (h : w.heap[D]? = some o) (hne : D ≠ R) (v0 v1 v2 v3 v4 : Value) : (((((w.setCell ⟨R, 0, none⟩ v0).setCell ⟨R, 1, none⟩ v1).setCell ⟨R, 2, none⟩ v2).setCell ⟨R, 3, none⟩ v3).setCell ⟨R, 4, none⟩ v4).heap[D]? = some o := by
  rw [Below.heap_setCell _ _ _ _ hne, Below.heap_setCell _ _ _ _ hne, Below.heap_setCell _ _ _ _ hne, Below.heap_setCell _ _ _ _ hne, Below.heap_setCell _ _ _ _ hne, h]
theorem set5_own {w : World} {R : Nat} {t : TypeId} {u0 u1 u2 u3 u4 : Value} (h : w.heap[R]? = some (Obj.cells #[u0, u1, u2, u3, u4] t (0, 0))) (v0 v1 v2 v3 v4 : Value) : (((((w.setCell ⟨R, 0, none⟩ v0).setCell ⟨R, 1, none⟩ v1).setCell ⟨R, 2, none⟩ v2).setCell ⟨R, 3, none⟩ v3).setCell ⟨R, 4, none⟩ v4).heap[R]? = some (Obj.cells #[v0, v1, v2, v3, v4] t (0, 0)) :=
  blk_put (cs' := #[v0, v1, v2, v3, v4]) (blk_put (cs' := #[v0, v1, v2, v3, u4]) (blk_put (cs' := #[v0, v1, v2, u3, u4]) (blk_put (cs' := #[v0, v1, u2, u3, u4]) (blk_put (cs' := #[v0, u1, u2, u3, u4]) h 0 v0 rfl) 1 v1 rfl) 2 v2 rfl) 3 v3 rfl) 4 v4 rfl
theorem set5_below {w0 w : World} {R : Nat} (h : Below w0.heap.size w0 w) (hR : w0.heap.size ≤ R) (v0 v1 v2 v3 v4 : Value) : Below w0.heap.size w0 (((((w.setCell ⟨R, 0, none⟩ v0).setCell ⟨R, 1, none⟩ v1).setCell ⟨R, 2, none⟩ v2).setCell ⟨R, 3, none⟩ v3).setCell ⟨R, 4, none⟩ v4) := below_set (below_set (below_set (below_set (below_set h hR) hR) hR) hR) hR
set_option maxHeartbeats 8000000 in
set_option maxRecDepth 100000 in
theorem ruleD_5t (s : ByteArray) (a b c d e : List UInt8) (hs : s.size ≤ 65536) (hW : fieldsL (bl s) = [a, b, c, d, e]) (hz : a.length ≤ 1048576 ∧ b.length ≤ 1048576 ∧ c.length ≤ 1048576 ∧ d.length ≤ 1048576 ∧ e.length ≤ 1048576) (n0 : Bool) (hn0 : ((lb a).toList == ([107, 101, 101, 112, 110, 97, 109, 101] : List UInt8)) = n0) (hrt : rightR (n0, true, c, d, e) = true) (ok : Bool) (hok : ((lb (lineR (n0, true, c, d, e))).toList == s.toList) = ok) (w : World) :
    Calls Tryd.prog 107 #[.string s] w fun x w' => x = .returned (.tuple #[.agg #[.bool n0, .bool true, .string (lb c), .string (lb d), .string (lb e)], .bool ok]) ∧ Below w.heap.size w w' := by
  have HF := Aside0.mk (fun W => secateurref04_Fields.calls s [lb a, lb b, lb c, lb d, lb e] W (by unfold secateurref04_Fields.f word_Fields.f; rw [if_pos (by omega), hW]; rfl))
  have HRt : Aside0 (∀ W, Calls Tryd.prog 51 #[.agg #[.bool n0, .bool true, .string (lb c), .string (lb d), .string (lb e)]] W fun x_ w' => x_ = .returned (.bool true) ∧ Below W.heap.size W w') := ⟨fun W => secateurref22_Right.calls n0 true (lb c) (lb d) (lb e) _ W (by unfold secateurref22_Right.f; unfold rules_Right.f; rw [if_pos ⟨by rw [lb_size]; omega, by rw [lb_size]; omega, by rw [lb_size]; omega⟩]; exact congrArg some hrt)⟩
  have HLn : Aside0 (∀ W, Calls Tryd.prog 109 #[.agg #[.bool n0, .bool true, .string (lb c), .string (lb d), .string (lb e)]] W fun x_ w' => x_ = .returned (.string (lb (lineR (n0, true, c, d, e)))) ∧ Below W.heap.size W w') := ⟨fun W => secateurref22_line.calls n0 true (lb c) (lb d) (lb e) _ W (by unfold secateurref22_line.f; rw [if_pos ⟨by rw [lb_size]; omega, by rw [lb_size]; omega, by rw [lb_size]; omega⟩]; simp only [bl_lb])⟩
  obtain ⟨ln, hln⟩ : ∃ l, l = lb (lineR (n0, true, c, d, e)) := ⟨_, rfl⟩
  rw [← hln] at HLn hok
  clear hW hz hrt hln
  go_enter Tryd.func107, Tryd.ntmps107
  go_wp2_with fail
  refine (HF.out _).mono ?_
  rintro x w1 ⟨v1, rfl, hR1, hB1⟩
  have hz0 := blk_below (World.alloc_heap_new w (Obj.cells #[.bool false, .bool false, .string ⟨#[]⟩, .string ⟨#[]⟩, .string ⟨#[]⟩] 66)) hB1
  have hBw := below_step (below_alloc (Below.refl w.heap.size w) (Obj.cells #[.bool false, .bool false, .string ⟨#[]⟩, .string ⟨#[]⟩, .string ⟨#[]⟩] 66)) hB1
  obtain ⟨A1, c1, rfl, hc1, hC1⟩ := Kd.R_reads hR1
  obtain ⟨ad, had, k0⟩ := Kd.at_string hC1 0 (by decide) (by simp)
  cases had
  obtain ⟨g, rfl⟩ := Kd.R_head hR1
  have k0 : w1.cell? ⟨g, 0, none⟩ = some (.string (lb a)) := k0
  obtain ⟨ad, had, k2⟩ := Kd.at_string hC1 2 (by decide) (by simp)
  cases had
  have k2 : w1.cell? ⟨g, 2, none⟩ = some (.string (lb c)) := k2
  obtain ⟨ad, had, k3⟩ := Kd.at_string hC1 3 (by decide) (by simp)
  cases had
  have k3 : w1.cell? ⟨g, 3, none⟩ = some (.string (lb d)) := k3
  obtain ⟨ad, had, k4⟩ := Kd.at_string hC1 4 (by decide) (by simp)
  cases had
  have k4 : w1.cell? ⟨g, 4, none⟩ = some (.string (lb e)) := k4
  have hg : g < w1.heap.size := Kd.R_lt hR1 g (by simp [Value.ownBlock])
  have HD : Aside0 (∀ o, Below w1.heap.size w1 ((w1.alloc o).drew)) := ⟨fun o => below_drew1 (below_alloc (Below.refl _ w1) o)⟩
  have HA : Aside0 (∀ o, Below w1.heap.size w1 (w1.drew.alloc o)) := ⟨fun o => below_alloc (below_drew1 (Below.refl _ w1)) o⟩
  have d0 : ∀ o, ((w1.alloc o).drew).cell? ⟨g, 0, none⟩ = some (.string (lb a)) := fun o => ((HD.out o).cell hg).trans k0
  have f0 : ∀ o, (w1.drew.alloc o).cell? ⟨g, 0, none⟩ = some (.string (lb a)) := fun o => ((HA.out o).cell hg).trans k0
  have q0 : w1.drew.cell? ⟨g, 0, none⟩ = some (.string (lb a)) := k0
  have d2 : ∀ o, ((w1.alloc o).drew).cell? ⟨g, 2, none⟩ = some (.string (lb c)) := fun o => ((HD.out o).cell hg).trans k2
  have f2 : ∀ o, (w1.drew.alloc o).cell? ⟨g, 2, none⟩ = some (.string (lb c)) := fun o => ((HA.out o).cell hg).trans k2
  have q2 : w1.drew.cell? ⟨g, 2, none⟩ = some (.string (lb c)) := k2
  have d3 : ∀ o, ((w1.alloc o).drew).cell? ⟨g, 3, none⟩ = some (.string (lb d)) := fun o => ((HD.out o).cell hg).trans k3
  have f3 : ∀ o, (w1.drew.alloc o).cell? ⟨g, 3, none⟩ = some (.string (lb d)) := fun o => ((HA.out o).cell hg).trans k3
  have q3 : w1.drew.cell? ⟨g, 3, none⟩ = some (.string (lb d)) := k3
  have d4 : ∀ o, ((w1.alloc o).drew).cell? ⟨g, 4, none⟩ = some (.string (lb e)) := fun o => ((HD.out o).cell hg).trans k4
  have f4 : ∀ o, (w1.drew.alloc o).cell? ⟨g, 4, none⟩ = some (.string (lb e)) := fun o => ((HA.out o).cell hg).trans k4
  have q4 : w1.drew.cell? ⟨g, 4, none⟩ = some (.string (lb e)) := k4
  have HR0 : Aside0 (w.heap.size < w1.heap.size) := ⟨blk_lt hz0⟩
  have HZ := Aside0.mk hz0
  have HBW := Aside0.mk hBw
  clear hC1 hR1 hB1 hz0 hBw
  go_wp2_with fail
  go_region_held3 (fun w' => w'.cell? ⟨g, 0, none⟩ = some (.string (lb a)) ∧ w'.cell? ⟨g, 2, none⟩ = some (.string (lb c))) ((first | exact ⟨q0, q2⟩ | exact ⟨d0 _, d2 _⟩ | exact ⟨f0 _, f2 _⟩)) (fail)
  clear hn0
  go_wp2_with fail
  have hp : RM w ((w1.alloc (Obj.cells #[.bool n0, .bool true, .string (lb c), .string (lb d), .string (lb e)] 66)).drew) w.heap.size w1.heap.size (Obj.cells #[.bool false, .bool false, .string ⟨#[]⟩, .string ⟨#[]⟩, .string ⟨#[]⟩] 66 (0, 0)) (Obj.cells #[.bool n0, .bool true, .string (lb c), .string (lb d), .string (lb e)] 66 (0, 0)) := ⟨blk_alloc HZ.out _, World.alloc_heap_new w1 _, below_drew1 (below_alloc HBW.out _)⟩
  have hne : w1.heap.size ≠ w.heap.size := by have := HR0.out; omega
  clear HZ HBW HR0 HD HA
  replace hp := hp.below (below_drew1 (Below.refl _ _))
  go_region_held3 (fun w' => w'.cell? ⟨w1.heap.size, 0, none⟩ = some (.bool n0) ∧ w'.cell? ⟨w1.heap.size, 1, none⟩ = some (.bool true) ∧ w'.cell? ⟨w1.heap.size, 2, none⟩ = some (.string (lb c)) ∧ w'.cell? ⟨w1.heap.size, 3, none⟩ = some (.string (lb d)) ∧ w'.cell? ⟨w1.heap.size, 4, none⟩ = some (.string (lb e))) (first | with_reducible exact cells5 hp.s | with_reducible exact cells5 (set5_far hp.s hne _ _ _ _ _)) (first | (go_at_call 51; refine (HRt.out _).mono ?_; rintro e w2 ⟨rfl, hb⟩; replace hp := hp.below hb; clear hb) | (go_at_call 109; refine (HLn.out _).mono ?_; rintro e w2 ⟨rfl, hb⟩; replace hp := hp.below hb; clear hb; obtain ⟨e0, e1, e2, e3, e4⟩ := cells5 hp.r; have ef := blk_frozen hp.r))
  all_goals go_wp2_with fail
  all_goals (refine bodyPost_ret (results_ct rfl _ _ w.heap.size 66 #[.bool n0, .bool true, .string (lb c), .string (lb d), .string (lb e)] (0, 0) _ rfl (set5_own hp.r _ _ _ _ _) Tryd.underlying66 rfl (by kernel_rfl)) rfl ⟨rfl, set5_below hp.bel (Nat.le_refl _) _ _ _ _ _⟩)
set_option maxHeartbeats 8000000 in
set_option maxRecDepth 100000 in
theorem ruleD_5f (s : ByteArray) (a b c d e : List UInt8) (hs : s.size ≤ 65536) (hW : fieldsL (bl s) = [a, b, c, d, e]) (hz : a.length ≤ 1048576 ∧ b.length ≤ 1048576 ∧ c.length ≤ 1048576 ∧ d.length ≤ 1048576 ∧ e.length ≤ 1048576) (n0 : Bool) (hn0 : ((lb a).toList == ([107, 101, 101, 112, 110, 97, 109, 101] : List UInt8)) = n0) (hrt : rightR (n0, true, c, d, e) = false) (w : World) :
    Calls Tryd.prog 107 #[.string s] w fun x w' => x = .returned (.tuple #[.agg #[.bool n0, .bool true, .string (lb c), .string (lb d), .string (lb e)], .bool false]) ∧ Below w.heap.size w w' := by
  have HF := Aside0.mk (fun W => secateurref04_Fields.calls s [lb a, lb b, lb c, lb d, lb e] W (by unfold secateurref04_Fields.f word_Fields.f; rw [if_pos (by omega), hW]; rfl))
  have HRt : Aside0 (∀ W, Calls Tryd.prog 51 #[.agg #[.bool n0, .bool true, .string (lb c), .string (lb d), .string (lb e)]] W fun x_ w' => x_ = .returned (.bool false) ∧ Below W.heap.size W w') := ⟨fun W => secateurref22_Right.calls n0 true (lb c) (lb d) (lb e) _ W (by unfold secateurref22_Right.f; unfold rules_Right.f; rw [if_pos ⟨by rw [lb_size]; omega, by rw [lb_size]; omega, by rw [lb_size]; omega⟩]; exact congrArg some hrt)⟩
  clear hW hz hrt
  go_enter Tryd.func107, Tryd.ntmps107
  go_wp2_with fail
  refine (HF.out _).mono ?_
  rintro x w1 ⟨v1, rfl, hR1, hB1⟩
  have hz0 := blk_below (World.alloc_heap_new w (Obj.cells #[.bool false, .bool false, .string ⟨#[]⟩, .string ⟨#[]⟩, .string ⟨#[]⟩] 66)) hB1
  have hBw := below_step (below_alloc (Below.refl w.heap.size w) (Obj.cells #[.bool false, .bool false, .string ⟨#[]⟩, .string ⟨#[]⟩, .string ⟨#[]⟩] 66)) hB1
  obtain ⟨A1, c1, rfl, hc1, hC1⟩ := Kd.R_reads hR1
  obtain ⟨ad, had, k0⟩ := Kd.at_string hC1 0 (by decide) (by simp)
  cases had
  obtain ⟨g, rfl⟩ := Kd.R_head hR1
  have k0 : w1.cell? ⟨g, 0, none⟩ = some (.string (lb a)) := k0
  obtain ⟨ad, had, k2⟩ := Kd.at_string hC1 2 (by decide) (by simp)
  cases had
  have k2 : w1.cell? ⟨g, 2, none⟩ = some (.string (lb c)) := k2
  obtain ⟨ad, had, k3⟩ := Kd.at_string hC1 3 (by decide) (by simp)
  cases had
  have k3 : w1.cell? ⟨g, 3, none⟩ = some (.string (lb d)) := k3
  obtain ⟨ad, had, k4⟩ := Kd.at_string hC1 4 (by decide) (by simp)
  cases had
  have k4 : w1.cell? ⟨g, 4, none⟩ = some (.string (lb e)) := k4
  have hg : g < w1.heap.size := Kd.R_lt hR1 g (by simp [Value.ownBlock])
  have HD : Aside0 (∀ o, Below w1.heap.size w1 ((w1.alloc o).drew)) := ⟨fun o => below_drew1 (below_alloc (Below.refl _ w1) o)⟩
  have HA : Aside0 (∀ o, Below w1.heap.size w1 (w1.drew.alloc o)) := ⟨fun o => below_alloc (below_drew1 (Below.refl _ w1)) o⟩
  have d0 : ∀ o, ((w1.alloc o).drew).cell? ⟨g, 0, none⟩ = some (.string (lb a)) := fun o => ((HD.out o).cell hg).trans k0
  have f0 : ∀ o, (w1.drew.alloc o).cell? ⟨g, 0, none⟩ = some (.string (lb a)) := fun o => ((HA.out o).cell hg).trans k0
  have q0 : w1.drew.cell? ⟨g, 0, none⟩ = some (.string (lb a)) := k0
  have d2 : ∀ o, ((w1.alloc o).drew).cell? ⟨g, 2, none⟩ = some (.string (lb c)) := fun o => ((HD.out o).cell hg).trans k2
  have f2 : ∀ o, (w1.drew.alloc o).cell? ⟨g, 2, none⟩ = some (.string (lb c)) := fun o => ((HA.out o).cell hg).trans k2
  have q2 : w1.drew.cell? ⟨g, 2, none⟩ = some (.string (lb c)) := k2
  have d3 : ∀ o, ((w1.alloc o).drew).cell? ⟨g, 3, none⟩ = some (.string (lb d)) := fun o => ((HD.out o).cell hg).trans k3
  have f3 : ∀ o, (w1.drew.alloc o).cell? ⟨g, 3, none⟩ = some (.string (lb d)) := fun o => ((HA.out o).cell hg).trans k3
  have q3 : w1.drew.cell? ⟨g, 3, none⟩ = some (.string (lb d)) := k3
  have d4 : ∀ o, ((w1.alloc o).drew).cell? ⟨g, 4, none⟩ = some (.string (lb e)) := fun o => ((HD.out o).cell hg).trans k4
  have f4 : ∀ o, (w1.drew.alloc o).cell? ⟨g, 4, none⟩ = some (.string (lb e)) := fun o => ((HA.out o).cell hg).trans k4
  have q4 : w1.drew.cell? ⟨g, 4, none⟩ = some (.string (lb e)) := k4
  have HR0 : Aside0 (w.heap.size < w1.heap.size) := ⟨blk_lt hz0⟩
  have HZ := Aside0.mk hz0
  have HBW := Aside0.mk hBw
  clear hC1 hR1 hB1 hz0 hBw
  go_wp2_with fail
  go_region_held3 (fun w' => w'.cell? ⟨g, 0, none⟩ = some (.string (lb a)) ∧ w'.cell? ⟨g, 2, none⟩ = some (.string (lb c))) ((first | exact ⟨q0, q2⟩ | exact ⟨d0 _, d2 _⟩ | exact ⟨f0 _, f2 _⟩)) (fail)
  clear hn0
  go_wp2_with fail
  have hp : RM w ((w1.alloc (Obj.cells #[.bool n0, .bool true, .string (lb c), .string (lb d), .string (lb e)] 66)).drew) w.heap.size w1.heap.size (Obj.cells #[.bool false, .bool false, .string ⟨#[]⟩, .string ⟨#[]⟩, .string ⟨#[]⟩] 66 (0, 0)) (Obj.cells #[.bool n0, .bool true, .string (lb c), .string (lb d), .string (lb e)] 66 (0, 0)) := ⟨blk_alloc HZ.out _, World.alloc_heap_new w1 _, below_drew1 (below_alloc HBW.out _)⟩
  have hne : w1.heap.size ≠ w.heap.size := by have := HR0.out; omega
  clear HZ HBW HR0 HD HA
  replace hp := hp.below (below_drew1 (Below.refl _ _))
  obtain ⟨e0, e1, e2, e3, e4⟩ := cells5 hp.s
  obtain ⟨z0, z1, z2, z3, z4⟩ := cells5 hp.r
  have ef := blk_frozen hp.r
  first
    | (go_region_with (first | (go_at_call 51; refine (HRt.out _).mono ?_; rintro e w2 ⟨rfl, hb⟩; replace hp := hp.below hb; clear hb e0 e1 e2 e3 e4 z0 z1 z2 z3 z4 ef; obtain ⟨e0, e1, e2, e3, e4⟩ := cells5 hp.s; obtain ⟨z0, z1, z2, z3, z4⟩ := cells5 hp.r; have ef := blk_frozen hp.r)))
    | fail "no"
  all_goals go_wp2_with fail
  all_goals (refine bodyPost_ret (results_ct rfl _ _ w.heap.size 66 #[.bool n0, .bool true, .string (lb c), .string (lb d), .string (lb e)] (0, 0) _ rfl (set5_own hp.r _ _ _ _ _) Tryd.underlying66 rfl (by kernel_rfl)) rfl ⟨rfl, set5_below hp.bel (Nat.le_refl _) _ _ _ _ _⟩)
set_option maxHeartbeats 8000000 in
set_option maxRecDepth 100000 in
theorem ruleD_3t (s : ByteArray) (a b c : List UInt8) (hs : s.size ≤ 65536) (hW : fieldsL (bl s) = [a, b, c]) (hz : a.length ≤ 1048576 ∧ b.length ≤ 1048576 ∧ c.length ≤ 1048576) (n0 : Bool) (hn0 : ((lb a).toList == ([107, 101, 101, 112, 110, 97, 109, 101] : List UInt8)) = n0) (hrt : rightR (n0, false, c, [], []) = true) (ok : Bool) (hok : ((lb (lineR (n0, false, c, [], []))).toList == s.toList) = ok) (w : World) :
    Calls Tryd.prog 107 #[.string s] w fun x w' => x = .returned (.tuple #[.agg #[.bool n0, .bool false, .string (lb c), .string ⟨#[]⟩, .string ⟨#[]⟩], .bool ok]) ∧ Below w.heap.size w w' := by
  have HF := Aside0.mk (fun W => secateurref04_Fields.calls s [lb a, lb b, lb c] W (by unfold secateurref04_Fields.f word_Fields.f; rw [if_pos (by omega), hW]; rfl))
  have HRt : Aside0 (∀ W, Calls Tryd.prog 51 #[.agg #[.bool n0, .bool false, .string (lb c), .string ⟨#[]⟩, .string ⟨#[]⟩]] W fun x_ w' => x_ = .returned (.bool true) ∧ Below W.heap.size W w') := ⟨fun W => secateurref22_Right.calls n0 false (lb c) ⟨#[]⟩ ⟨#[]⟩ _ W (by unfold secateurref22_Right.f; unfold rules_Right.f; rw [if_pos ⟨by rw [lb_size]; omega, by decide, by decide⟩]; exact congrArg some hrt)⟩
  have HLn : Aside0 (∀ W, Calls Tryd.prog 109 #[.agg #[.bool n0, .bool false, .string (lb c), .string ⟨#[]⟩, .string ⟨#[]⟩]] W fun x_ w' => x_ = .returned (.string (lb (lineR (n0, false, c, [], [])))) ∧ Below W.heap.size W w') := ⟨fun W => secateurref22_line.calls n0 false (lb c) ⟨#[]⟩ ⟨#[]⟩ _ W (by unfold secateurref22_line.f; rw [if_pos ⟨by rw [lb_size]; omega, by decide, by decide⟩]; simp only [bl_lb]; rfl)⟩
  obtain ⟨ln, hln⟩ : ∃ l, l = lb (lineR (n0, false, c, [], [])) := ⟨_, rfl⟩
  rw [← hln] at HLn hok
  clear hW hz hrt hln
  go_enter Tryd.func107, Tryd.ntmps107
  go_wp2_with fail
  refine (HF.out _).mono ?_
  rintro x w1 ⟨v1, rfl, hR1, hB1⟩
  have hz0 := blk_below (World.alloc_heap_new w (Obj.cells #[.bool false, .bool false, .string ⟨#[]⟩, .string ⟨#[]⟩, .string ⟨#[]⟩] 66)) hB1
  have hBw := below_step (below_alloc (Below.refl w.heap.size w) (Obj.cells #[.bool false, .bool false, .string ⟨#[]⟩, .string ⟨#[]⟩, .string ⟨#[]⟩] 66)) hB1
  obtain ⟨A1, c1, rfl, hc1, hC1⟩ := Kd.R_reads hR1
  obtain ⟨ad, had, k0⟩ := Kd.at_string hC1 0 (by decide) (by simp)
  cases had
  obtain ⟨g, rfl⟩ := Kd.R_head hR1
  have k0 : w1.cell? ⟨g, 0, none⟩ = some (.string (lb a)) := k0
  obtain ⟨ad, had, k2⟩ := Kd.at_string hC1 2 (by decide) (by simp)
  cases had
  have k2 : w1.cell? ⟨g, 2, none⟩ = some (.string (lb c)) := k2
  have hg : g < w1.heap.size := Kd.R_lt hR1 g (by simp [Value.ownBlock])
  have HD : Aside0 (∀ o, Below w1.heap.size w1 ((w1.alloc o).drew)) := ⟨fun o => below_drew1 (below_alloc (Below.refl _ w1) o)⟩
  have HA : Aside0 (∀ o, Below w1.heap.size w1 (w1.drew.alloc o)) := ⟨fun o => below_alloc (below_drew1 (Below.refl _ w1)) o⟩
  have d0 : ∀ o, ((w1.alloc o).drew).cell? ⟨g, 0, none⟩ = some (.string (lb a)) := fun o => ((HD.out o).cell hg).trans k0
  have f0 : ∀ o, (w1.drew.alloc o).cell? ⟨g, 0, none⟩ = some (.string (lb a)) := fun o => ((HA.out o).cell hg).trans k0
  have q0 : w1.drew.cell? ⟨g, 0, none⟩ = some (.string (lb a)) := k0
  have d2 : ∀ o, ((w1.alloc o).drew).cell? ⟨g, 2, none⟩ = some (.string (lb c)) := fun o => ((HD.out o).cell hg).trans k2
  have f2 : ∀ o, (w1.drew.alloc o).cell? ⟨g, 2, none⟩ = some (.string (lb c)) := fun o => ((HA.out o).cell hg).trans k2
  have q2 : w1.drew.cell? ⟨g, 2, none⟩ = some (.string (lb c)) := k2
  have HR0 : Aside0 (w.heap.size < w1.heap.size) := ⟨blk_lt hz0⟩
  have HZ := Aside0.mk hz0
  have HBW := Aside0.mk hBw
  clear hC1 hR1 hB1 hz0 hBw
  go_wp2_with fail
  go_region_held3 (fun w' => w'.cell? ⟨g, 0, none⟩ = some (.string (lb a)) ∧ w'.cell? ⟨g, 2, none⟩ = some (.string (lb c))) ((first | exact ⟨q0, q2⟩ | exact ⟨d0 _, d2 _⟩ | exact ⟨f0 _, f2 _⟩)) (fail)
  clear hn0
  go_wp2_with fail
  have hp : RM w ((w1.alloc (Obj.cells #[.bool n0, .bool false, .string (lb c), .string ⟨#[]⟩, .string ⟨#[]⟩] 66)).drew) w.heap.size w1.heap.size (Obj.cells #[.bool false, .bool false, .string ⟨#[]⟩, .string ⟨#[]⟩, .string ⟨#[]⟩] 66 (0, 0)) (Obj.cells #[.bool n0, .bool false, .string (lb c), .string ⟨#[]⟩, .string ⟨#[]⟩] 66 (0, 0)) := ⟨blk_alloc HZ.out _, World.alloc_heap_new w1 _, below_drew1 (below_alloc HBW.out _)⟩
  have hne : w1.heap.size ≠ w.heap.size := by have := HR0.out; omega
  clear HZ HBW HR0 HD HA
  replace hp := hp.below (below_drew1 (Below.refl _ _))
  go_region_held3 (fun w' => w'.cell? ⟨w1.heap.size, 0, none⟩ = some (.bool n0) ∧ w'.cell? ⟨w1.heap.size, 1, none⟩ = some (.bool false) ∧ w'.cell? ⟨w1.heap.size, 2, none⟩ = some (.string (lb c)) ∧ w'.cell? ⟨w1.heap.size, 3, none⟩ = some (.string ⟨#[]⟩) ∧ w'.cell? ⟨w1.heap.size, 4, none⟩ = some (.string ⟨#[]⟩)) (first | with_reducible exact cells5 hp.s | with_reducible exact cells5 (set5_far hp.s hne _ _ _ _ _)) (first | (go_at_call 51; refine (HRt.out _).mono ?_; rintro e w2 ⟨rfl, hb⟩; replace hp := hp.below hb; clear hb) | (go_at_call 109; refine (HLn.out _).mono ?_; rintro e w2 ⟨rfl, hb⟩; replace hp := hp.below hb; clear hb; obtain ⟨e0, e1, e2, e3, e4⟩ := cells5 hp.r; have ef := blk_frozen hp.r))
  all_goals go_wp2_with fail
  all_goals (refine bodyPost_ret (results_ct rfl _ _ w.heap.size 66 #[.bool n0, .bool false, .string (lb c), .string ⟨#[]⟩, .string ⟨#[]⟩] (0, 0) _ rfl (set5_own hp.r _ _ _ _ _) Tryd.underlying66 rfl (by kernel_rfl)) rfl ⟨rfl, set5_below hp.bel (Nat.le_refl _) _ _ _ _ _⟩)
set_option maxHeartbeats 8000000 in
set_option maxRecDepth 100000 in
theorem ruleD_3f (s : ByteArray) (a b c : List UInt8) (hs : s.size ≤ 65536) (hW : fieldsL (bl s) = [a, b, c]) (hz : a.length ≤ 1048576 ∧ b.length ≤ 1048576 ∧ c.length ≤ 1048576) (n0 : Bool) (hn0 : ((lb a).toList == ([107, 101, 101, 112, 110, 97, 109, 101] : List UInt8)) = n0) (hrt : rightR (n0, false, c, [], []) = false) (w : World) :
    Calls Tryd.prog 107 #[.string s] w fun x w' => x = .returned (.tuple #[.agg #[.bool n0, .bool false, .string (lb c), .string ⟨#[]⟩, .string ⟨#[]⟩], .bool false]) ∧ Below w.heap.size w w' := by
  have HF := Aside0.mk (fun W => secateurref04_Fields.calls s [lb a, lb b, lb c] W (by unfold secateurref04_Fields.f word_Fields.f; rw [if_pos (by omega), hW]; rfl))
  have HRt : Aside0 (∀ W, Calls Tryd.prog 51 #[.agg #[.bool n0, .bool false, .string (lb c), .string ⟨#[]⟩, .string ⟨#[]⟩]] W fun x_ w' => x_ = .returned (.bool false) ∧ Below W.heap.size W w') := ⟨fun W => secateurref22_Right.calls n0 false (lb c) ⟨#[]⟩ ⟨#[]⟩ _ W (by unfold secateurref22_Right.f; unfold rules_Right.f; rw [if_pos ⟨by rw [lb_size]; omega, by decide, by decide⟩]; exact congrArg some hrt)⟩
  clear hW hz hrt
  go_enter Tryd.func107, Tryd.ntmps107
  go_wp2_with fail
  refine (HF.out _).mono ?_
  rintro x w1 ⟨v1, rfl, hR1, hB1⟩
  have hz0 := blk_below (World.alloc_heap_new w (Obj.cells #[.bool false, .bool false, .string ⟨#[]⟩, .string ⟨#[]⟩, .string ⟨#[]⟩] 66)) hB1
  have hBw := below_step (below_alloc (Below.refl w.heap.size w) (Obj.cells #[.bool false, .bool false, .string ⟨#[]⟩, .string ⟨#[]⟩, .string ⟨#[]⟩] 66)) hB1
  obtain ⟨A1, c1, rfl, hc1, hC1⟩ := Kd.R_reads hR1
  obtain ⟨ad, had, k0⟩ := Kd.at_string hC1 0 (by decide) (by simp)
  cases had
  obtain ⟨g, rfl⟩ := Kd.R_head hR1
  have k0 : w1.cell? ⟨g, 0, none⟩ = some (.string (lb a)) := k0
  obtain ⟨ad, had, k2⟩ := Kd.at_string hC1 2 (by decide) (by simp)
  cases had
  have k2 : w1.cell? ⟨g, 2, none⟩ = some (.string (lb c)) := k2
  have hg : g < w1.heap.size := Kd.R_lt hR1 g (by simp [Value.ownBlock])
  have HD : Aside0 (∀ o, Below w1.heap.size w1 ((w1.alloc o).drew)) := ⟨fun o => below_drew1 (below_alloc (Below.refl _ w1) o)⟩
  have HA : Aside0 (∀ o, Below w1.heap.size w1 (w1.drew.alloc o)) := ⟨fun o => below_alloc (below_drew1 (Below.refl _ w1)) o⟩
  have d0 : ∀ o, ((w1.alloc o).drew).cell? ⟨g, 0, none⟩ = some (.string (lb a)) := fun o => ((HD.out o).cell hg).trans k0
  have f0 : ∀ o, (w1.drew.alloc o).cell? ⟨g, 0, none⟩ = some (.string (lb a)) := fun o => ((HA.out o).cell hg).trans k0
  have q0 : w1.drew.cell? ⟨g, 0, none⟩ = some (.string (lb a)) := k0
  have d2 : ∀ o, ((w1.alloc o).drew).cell? ⟨g, 2, none⟩ = some (.string (lb c)) := fun o => ((HD.out o).cell hg).trans k2
  have f2 : ∀ o, (w1.drew.alloc o).cell? ⟨g, 2, none⟩ = some (.string (lb c)) := fun o => ((HA.out o).cell hg).trans k2
  have q2 : w1.drew.cell? ⟨g, 2, none⟩ = some (.string (lb c)) := k2
  have HR0 : Aside0 (w.heap.size < w1.heap.size) := ⟨blk_lt hz0⟩
  have HZ := Aside0.mk hz0
  have HBW := Aside0.mk hBw
  clear hC1 hR1 hB1 hz0 hBw
  go_wp2_with fail
  go_region_held3 (fun w' => w'.cell? ⟨g, 0, none⟩ = some (.string (lb a)) ∧ w'.cell? ⟨g, 2, none⟩ = some (.string (lb c))) ((first | exact ⟨q0, q2⟩ | exact ⟨d0 _, d2 _⟩ | exact ⟨f0 _, f2 _⟩)) (fail)
  clear hn0
  go_wp2_with fail
  have hp : RM w ((w1.alloc (Obj.cells #[.bool n0, .bool false, .string (lb c), .string ⟨#[]⟩, .string ⟨#[]⟩] 66)).drew) w.heap.size w1.heap.size (Obj.cells #[.bool false, .bool false, .string ⟨#[]⟩, .string ⟨#[]⟩, .string ⟨#[]⟩] 66 (0, 0)) (Obj.cells #[.bool n0, .bool false, .string (lb c), .string ⟨#[]⟩, .string ⟨#[]⟩] 66 (0, 0)) := ⟨blk_alloc HZ.out _, World.alloc_heap_new w1 _, below_drew1 (below_alloc HBW.out _)⟩
  have hne : w1.heap.size ≠ w.heap.size := by have := HR0.out; omega
  clear HZ HBW HR0 HD HA
  replace hp := hp.below (below_drew1 (Below.refl _ _))
  obtain ⟨e0, e1, e2, e3, e4⟩ := cells5 hp.s
  obtain ⟨z0, z1, z2, z3, z4⟩ := cells5 hp.r
  have ef := blk_frozen hp.r
  first
    | (go_region_with (first | (go_at_call 51; refine (HRt.out _).mono ?_; rintro e w2 ⟨rfl, hb⟩; replace hp := hp.below hb; clear hb e0 e1 e2 e3 e4 z0 z1 z2 z3 z4 ef; obtain ⟨e0, e1, e2, e3, e4⟩ := cells5 hp.s; obtain ⟨z0, z1, z2, z3, z4⟩ := cells5 hp.r; have ef := blk_frozen hp.r)))
    | fail "no"
  all_goals go_wp2_with fail
  all_goals (refine bodyPost_ret (results_ct rfl _ _ w.heap.size 66 #[.bool n0, .bool false, .string (lb c), .string ⟨#[]⟩, .string ⟨#[]⟩] (0, 0) _ rfl (set5_own hp.r _ _ _ _ _) Tryd.underlying66 rfl (by kernel_rfl)) rfl ⟨rfl, set5_below hp.bel (Nat.le_refl _) _ _ _ _ _⟩)
set_option maxHeartbeats 8000000 in
set_option maxRecDepth 100000 in
theorem ruleD_no (s : ByteArray) (l : List ByteArray) (hs : s.size ≤ 65536) (hW : (fieldsL (bl s)).map lb = l) (n3 : ((l.length : Int) != 3) = true) (n5 : ((l.length : Int) != 5) = true) (w : World) :
    Calls Tryd.prog 107 #[.string s] w fun x w' => x = .returned (.tuple #[.agg #[.bool false, .bool false, .string ⟨#[]⟩, .string ⟨#[]⟩, .string ⟨#[]⟩], .bool false]) ∧ Below w.heap.size w w' := by
  have HF := Aside0.mk (fun W => secateurref04_Fields.calls s l W (by unfold secateurref04_Fields.f word_Fields.f; rw [if_pos (by omega), hW]))
  clear hW
  go_enter Tryd.func107, Tryd.ntmps107
  go_wp2_with fail
  refine (HF.out _).mono ?_
  rintro x w1 ⟨v1, rfl, hR1, hB1⟩
  have hz0 := blk_below (World.alloc_heap_new w (Obj.cells #[.bool false, .bool false, .string ⟨#[]⟩, .string ⟨#[]⟩, .string ⟨#[]⟩] 66)) hB1
  have hBw := below_step (below_alloc (Below.refl w.heap.size w) (Obj.cells #[.bool false, .bool false, .string ⟨#[]⟩, .string ⟨#[]⟩, .string ⟨#[]⟩] 66)) hB1
  obtain ⟨A1, c1, rfl, hc1, hC1⟩ := Kd.R_reads hR1
  obtain ⟨z0, z1, z2, z3, z4⟩ := cells5 hz0
  have ef := blk_frozen hz0
  clear hC1 hR1 hB1
  go_wp2_with fail
  all_goals (refine bodyPost_ret (results_ct rfl _ _ w.heap.size 66 #[.bool false, .bool false, .string ⟨#[]⟩, .string ⟨#[]⟩, .string ⟨#[]⟩] (0, 0) _ rfl (set5_own hz0 _ _ _ _ _) Tryd.underlying66 rfl (by kernel_rfl)) rfl ⟨rfl, set5_below hBw (Nat.le_refl _) _ _ _ _ _⟩)
theorem fld_size (s : List UInt8) : ∀ x ∈ fieldsL s, x.length ≤ s.length := fun y hy => by
  have h1 : y.length ≤ (lineL (fieldsL s)).length := by
    have : ∀ (l : List (List UInt8)), y ∈ l → y.length ≤ (lineL l).length := by
      intro l
      induction l with
      | nil => intro h; cases h
      | cons a l ihl =>
        intro h
        cases l with
        | nil => simp only [List.mem_singleton] at h; rw [h]; exact Nat.le_refl _
        | cons b l =>
          rw [lineL, List.length_append, List.length_cons]
          simp only [List.mem_cons] at h
          rcases h with rfl | h
          · omega
          · have := ihl (by simpa using h)
            omega
    exact this _ hy
  rw [line_fields] at h1
  exact h1
theorem names_eq (a : List UInt8) : ((lb a).toList == ([107, 101, 101, 112, 110, 97, 109, 101] : List UInt8)) = decide (a = namesW) := by
  rw [ByteArray.toList_eq]
  show (bl (lb a) == namesW) = _
  rw [bl_lb]
  by_cases h : a = namesW <;> simp [h]
theorem line_is (t : List UInt8) (s : ByteArray) : ((lb t).toList == s.toList) = decide (t = bl s) := by
  rw [ByteArray.toList_eq, ByteArray.toList_eq]
  show (bl (lb t) == bl s) = _
  rw [bl_lb]
  by_cases h : t = bl s <;> simp [h]
def ruleW (s : List UInt8) : List (List UInt8) → Rl × Bool
  | [a, b, c] => ((decide (a = namesW), false, c, [], []), rightR (decide (a = namesW), false, c, [], []) && decide (lineR (decide (a = namesW), false, c, [], []) = s))
  | [a, b, c, d, e] => ((decide (a = namesW), true, c, d, e), rightR (decide (a = namesW), true, c, d, e) && decide (lineR (decide (a = namesW), true, c, d, e) = s))
  | _ => ((false, false, [], [], []), false)
def secateurref22_rule.f (s : ByteArray) : Option (Bool × Bool × ByteArray × ByteArray × ByteArray × Bool) :=
  if s.size ≤ 65536 then
    let q := ruleW (bl s) (fieldsL (bl s))
    some (q.1.1, q.1.2.1, lb q.1.2.2.1, lb q.1.2.2.2.1, lb q.1.2.2.2.2, q.2)
  else none
set_option maxHeartbeats 8000000 in
theorem secateurref22_rule.calls (a0 : ByteArray) (r1 : Bool) (r2 : Bool) (r3 : ByteArray) (r4 : ByteArray) (r5 : ByteArray) (r6 : Bool) (w : World) (h : secateurref22_rule.f a0 = some (r1, r2, r3, r4, r5, r6)) :
    Calls Tryd.prog 107 #[.string a0] w fun e w' => e = .returned (.tuple #[.agg #[.bool r1, .bool r2, .string r3, .string r4, .string r5], .bool r6]) ∧ Below w.heap.size w w' := by
  unfold secateurref22_rule.f at h
  by_cases hs : a0.size ≤ 65536
  · rw [if_pos hs] at h
    simp only [Option.some.injEq, Prod.mk.injEq] at h
    obtain ⟨rfl, rfl, rfl, rfl, rfl, rfl⟩ := h
    have hz := fld_size (bl a0)
    rw [bl_len] at hz
    obtain ⟨W, hW⟩ : ∃ W, fieldsL (bl a0) = W := ⟨_, rfl⟩
    rw [hW] at hz ⊢
    by_cases h3 : W.length = 3
    · match W, h3 with
      | [a, b, c], _ =>
        have s1 := hz a (by simp)
        have s2 := hz b (by simp)
        have s3 := hz c (by simp)
        cases hr : rightR (decide (a = namesW), false, c, [], []) with
        | true =>
          simp only [ruleW, hr, Bool.true_and]
          exact ruleD_3t a0 a b c hs hW ⟨by omega, by omega, by omega⟩ _ (names_eq a) hr _ (line_is _ _) w
        | false =>
          simp only [ruleW, hr, Bool.false_and]
          exact ruleD_3f a0 a b c hs hW ⟨by omega, by omega, by omega⟩ _ (names_eq a) hr w
    by_cases h5 : W.length = 5
    · match W, h5 with
      | [a, b, c, d, e], _ =>
        have s1 := hz a (by simp)
        have s2 := hz b (by simp)
        have s3 := hz c (by simp)
        have s4 := hz d (by simp)
        have s5 := hz e (by simp)
        cases hr : rightR (decide (a = namesW), true, c, d, e) with
        | true =>
          simp only [ruleW, hr, Bool.true_and]
          exact ruleD_5t a0 a b c d e hs hW ⟨by omega, by omega, by omega, by omega, by omega⟩ _ (names_eq a) hr _ (line_is _ _) w
        | false =>
          simp only [ruleW, hr, Bool.false_and]
          exact ruleD_5f a0 a b c d e hs hW ⟨by omega, by omega, by omega, by omega, by omega⟩ _ (names_eq a) hr w
    have hn : ruleW (bl a0) W = ((false, false, [], [], []), false) := by
      unfold ruleW
      split
      · simp at h3
      · simp at h5
      · rfl
    rw [hn]
    exact ruleD_no a0 (W.map lb) hs (by rw [hW]) (by rw [List.length_map, bne_iff_ne]; omega) (by rw [List.length_map, bne_iff_ne]; omega) w
  · rw [if_neg hs] at h
    cases h
end Go.Proofs.YtmlbfepibfobaaaDoor.Hand
end

section
namespace Go.Proofs.YtmlbfepibfobaaaDoor.PRulesTexts
open Go.RowKit Go.Proofs.YtmlbfepibfobaaaDoorW.PrintWords Go.Proofs.YtmlbfepibfobaaaDoorW.PrintLast Go.Proofs.YtmlbfepibfobaaaDoorW.PrintMore Go.Proofs.YtmlbfepibfobaaaDoor.Hand
attribute [local go_sem] max2_int min2_int max_two min_two max_three min_three max_four min_four   -- for this text's walks alone
set_option linter.unusedVariables false
set_option linter.unusedSimpArgs false
def errW : Option Int → Value
  | none => .nilIface
  | some c => .iface 0 (.int .i64 c)
theorem errW_none : errW none = .nilIface := rfl
theorem errW_some (c : Int) : errW (some c) = .iface 0 (.int .i64 c) := rfl
theorem info9 : (Tryd.prog.info? 9).map (fun i => (i.zero, i.size, i.bytes)) = some (some (.string ⟨#[]⟩), 1, 16) := by kernel_rfl
theorem info66 : (Tryd.prog.info? 66).map (fun i => (i.zero, i.size, i.bytes)) = some (some (.agg #[(.bool false), (.bool false), (.string ⟨#[]⟩), (.string ⟨#[]⟩), (.string ⟨#[]⟩)]), 5, 56) := by kernel_rfl
end Go.Proofs.YtmlbfepibfobaaaDoor.PRulesTexts
end

section
namespace Go.Proofs.YtmlbfepibfobaaaDoor.PRulesTexts
open Go.RowKit Go.Proofs.YtmlbfepibfobaaaDoorW.PrintWords Go.Proofs.YtmlbfepibfobaaaDoorW.PrintLast Go.Proofs.YtmlbfepibfobaaaDoorW.PrintMore Go.Proofs.YtmlbfepibfobaaaDoor.Hand
attribute [local go_sem] max2_int min2_int max_two min_two max_three min_three max_four min_four   -- for this text's walks alone
set_option linter.unusedVariables false
set_option linter.unusedSimpArgs false
theorem eqA31 (d : Nat) (w : World) (x0 y0 : Int) (x1 y1 : Int) :
    (Op.equalIn (d + 2) 31 (.agg #[.int .i64 x0, .int .i64 x1]) (.agg #[.int .i64 y0, .int .i64 y1])).run Tryd.prog w = .ok (x0 == y0 && (x1 == y1)) w := by
  refine eqA_of Tryd.underlying31 (by kernel_rfl) ?_
  refine eqf_cons (by rfl) (by go_simp; rfl) (by go_simp; rfl) (by go_simp) ?_
  exact eqf_last (by rfl) (by go_simp; rfl) (by go_simp; rfl) (by go_simp)
end Go.Proofs.YtmlbfepibfobaaaDoor.PRulesTexts
end

section
namespace Go.Proofs.YtmlbfepibfobaaaDoor.PRulesTexts
open Go.RowKit Go.Proofs.YtmlbfepibfobaaaDoorW.PrintWords Go.Proofs.YtmlbfepibfobaaaDoorW.PrintLast Go.Proofs.YtmlbfepibfobaaaDoorW.PrintMore Go.Proofs.YtmlbfepibfobaaaDoor.Hand
attribute [local go_sem] max2_int min2_int max_two min_two max_three min_three max_four min_four   -- for this text's walks alone
set_option linter.unusedVariables false
set_option linter.unusedSimpArgs false
def secateurref22_Parse.l0 : Nat → List ByteArray → List (S66) → Int → Option ((List (S66)) × Int × Int)
  | 0, _, _, _ => none
  | k + 1, x4, x6, x7 => if x7 < (x4.length : Int) then (if 0 ≤ x7 then ((secateurref22_rule.f (rdOf ByteArray.empty x4 x7)).bind fun bt109 => (if bt109.2.2.2.2.2 = true then (if x7 ≥ 64 then (some (([] : List (S66)), 3, wrap64 (x7 + 1))) else (if x6.length < 2513169434916 then (secateurref22_Parse.l0 k x4 (x6 ++ [(⟨bt109.1, bt109.2.1, bt109.2.2.1, bt109.2.2.2.1, bt109.2.2.2.2.1⟩ : S66)]) (wrap64 (x7 + 1))) else (none))) else (some (([] : List (S66)), 10, wrap64 (x7 + 1))))) else (none)) else (some (x6, 0, 0))
def secateurref22_Parse.f (k : Nat) (a0 : ByteArray) : Option ((List (S66)) × Int × Int) := (secateurref04_Lines.f a0).bind fun bt102 => (if bt102.2.1 = 0 then (secateurref22_Parse.l0 k bt102.1 ([] : List (S66)) 0) else (some (([] : List (S66)), bt102.2.1, bt102.2.2)))
theorem secateurref22_Parse.mono_l : ∀ k, (∀ y0 y1 y2, LeO (secateurref22_Parse.l0 k y0 y1 y2) (secateurref22_Parse.l0 (k + 1) y0 y1 y2))
  | 0 => fun _ _ _ r h => by simp [secateurref22_Parse.l0] at h
  | k + 1 => by
    have ih0 := secateurref22_Parse.mono_l k
    · intro y0 y1 y2
      unfold secateurref22_Parse.l0
      repeat' first
      | (with_reducible exact ih0 _ _ _)
      | (with_reducible exact LeO.refl _)
      | (with_reducible exact LeO.none _)
      | (with_reducible refine LeO.ite ?_ ?_)
      | (with_reducible refine LeO.bind ?_ (fun _ => ?_))
      | exact ih0 _ _ _
      | exact LeO.none _
      | refine LeO.ite ?_ ?_
      | refine LeO.bind ?_ (fun _ => ?_)
theorem secateurref22_Parse.mono : ∀ a0 k, LeO (secateurref22_Parse.f k a0) (secateurref22_Parse.f (k + 1) a0) := by
  intro a0 k
  have ih0 := secateurref22_Parse.mono_l k
  unfold secateurref22_Parse.f
  repeat' first
      | (with_reducible exact ih0 _ _ _)
      | (with_reducible exact LeO.refl _)
      | (with_reducible exact LeO.none _)
      | (with_reducible refine LeO.ite ?_ ?_)
      | (with_reducible refine LeO.bind ?_ (fun _ => ?_))
      | exact ih0 _ _ _
      | exact LeO.none _
      | refine LeO.ite ?_ ?_
      | refine LeO.bind ?_ (fun _ => ?_)
set_option maxHeartbeats 8000000 in
set_option maxRecDepth 100000 in
theorem secateurref22_Parse.calls (k : Nat) (a0 : ByteArray) (r1 : List (S66)) (r2 : Int) (r3 : Int) (w : World) (h : secateurref22_Parse.f k a0 = some (r1, r2, r3)) :
    Calls Tryd.prog 53 #[.string a0] w fun e w' => ∃ v0_ : Value, e = .returned (.tuple #[v0_, .agg #[.int .i64 r2, .int .i64 r3]]) ∧ Kd.R k66 66 w' w.heap.size (fun _ => True) v0_ r1 ∧ Below w.heap.size w w' := by
  have hu31 := Tryd.underlying31
  have hu66 := Tryd.underlying66
  have HB := Aside0.mk (Below.refl w.heap.size w)
  have H : ((secateurref04_Lines.f a0).bind fun bt102 => (if bt102.2.1 = 0 then (secateurref22_Parse.l0 k bt102.1 ([] : List (S66)) 0) else (some (([] : List (S66)), bt102.2.1, bt102.2.2)))) = some (r1, r2, r3) := h
  clear h
  replace H := Option.bind_eq_some_iff.mp H
  obtain ⟨⟨t102, t105, t106⟩, A20, H⟩ := H
  replace H : (if t105 = 0 then (secateurref22_Parse.l0 k t102 ([] : List (S66)) 0) else (some (([] : List (S66)), t105, t106))) = some (r1, r2, r3) := H
  have A2 := Aside0.mk A20
  clear A20
  by_cases c3 : t105 = 0
  · rw [if_pos c3] at H
    have c3b0 : (t105 == 0) = true := beq_iff_eq.mpr c3
    have c3b1 : (t105 != 0) = false := bne_eq_false_iff_eq.mpr c3
    clear c3
    have H' := Aside0.mk H
    clear H
    go_enter Tryd.func53, Tryd.ntmps53
    go_wp2_with (first | ((with_reducible refine gate_dst (N := 3) rfl ?_); refine box_event ?hg (N := 3) ?hd (cs := #[.int .i64 0, .int .i64 0]) (t := 31) ?hr ?_; (case hd => rfl); (case hg => rfl); (case hr => first | (go_simp; done) | (go_simp; rfl)); intro gb101 hg w4 hbox hb; have n0_ := Aside0.mk (below_step (by repeat (first | (with_reducible first | exact HB.out | apply below_alloc | apply pw_below_drewN | apply below_drew1) | exact HB.out)) hb); have n1_ := Aside0.mk (hbox); have n2_ := Aside0.mk ((by rw [hg]; exact (below_size (by repeat (first | (with_reducible first | exact HB.out | apply below_alloc | apply pw_below_drewN | apply below_drew1) | exact HB.out))) : w.heap.size ≤ gb101)); have n3_ := Aside0.mk ((by rw [hg]; exact (below_size (by repeat (first | (with_reducible first | exact HB.out | apply below_alloc | apply pw_below_drewN | apply below_drew1) | exact HB.out))) : w.heap.size ≤ gb101)); clear HB; have HB := n0_; have BK101 := n1_; have GW101 := n2_; have GE101 := n3_; clear n0_ n1_ n2_ n3_; clear hb hbox hg) | ((with_reducible refine gate_callee (f := 41) rfl ?_); refine goesL_ (some 12) rfl rfl Tryd.func41 (by kernel_rfl) rfl #[.string a0] rfl (by (try simp only [List.map_toArray, List.map_cons, List.map_nil]); first | done | rfl | (simp only [List.length_drop, List.length_take]; rfl)) ?_; (with_reducible refine (secateurref04_Lines.calls a0 t102 t105 t106 _ A2.out).mono ?_); rintro e w5 ⟨v103, rfl, ho0, hb⟩; refine ⟨_, rfl, ?_⟩; have n0_ := Aside0.mk (Kd.R_lower ho0 (below_size (by repeat (first | (with_reducible first | exact HB.out | apply below_alloc | apply pw_below_drewN | apply below_drew1 | refine below_set ?_ GE101.out) | exact HB.out)))); have n1_ := Aside0.mk (blk_below (g := gb101) (o := .cells #[.int .i64 0, .int .i64 0] 31 (0, 0)) (by (with_reducible repeat (first | refine blk_drewN ?_ _ | refine blk_drew ?_ | refine blk_alloc ?_ _)); exact BK101.out) hb); have n2_ := Aside0.mk (below_step (by repeat (first | (with_reducible first | exact HB.out | apply below_alloc | apply pw_below_drewN | apply below_drew1 | refine below_set ?_ GE101.out) | exact HB.out)) hb); clear BK101; clear HB; have HO104 := n0_; have BK101 := n1_; have HB := n2_; clear n0_ n1_ n2_; (try clear hb); (try clear hb2); (try clear hk); (try clear hi); (try clear ho0)) | ((with_reducible refine gate_dst (N := 5) rfl ?_); refine box_event ?hg (N := 5) ?hd (cs := #[.int .i64 0, .int .i64 0]) (t := 31) ?hr ?_; (case hd => rfl); (case hg => rfl); (case hr => first | (go_simp; done) | (go_simp; rfl)); intro gb107 hg w6 hbox hb; have n0_ := Aside0.mk (Kd.R_below (by (with_reducible repeat (first | apply Kd.R_alloc | apply Kd.R_drewN | apply Kd.R_drew)); exact HO104.out) hb); have n1_ := Aside0.mk (blk_below (g := gb101) (o := .cells #[.int .i64 0, .int .i64 0] 31 (0, 0)) (by (with_reducible repeat (first | refine blk_drewN ?_ _ | refine blk_drew ?_ | refine blk_alloc ?_ _)); exact BK101.out) hb); have n2_ := Aside0.mk (below_step (by repeat (first | (with_reducible first | exact HB.out | apply below_alloc | apply pw_below_drewN | apply below_drew1 | refine below_set ?_ GE101.out) | exact HB.out)) hb); have n3_ := Aside0.mk (hbox); have n4_ := Aside0.mk ((by rw [hg]; exact (below_size (by repeat (first | (with_reducible first | exact HB.out | apply below_alloc | apply pw_below_drewN | apply below_drew1 | refine below_set ?_ GE101.out) | exact HB.out))) : w.heap.size ≤ gb107)); have n5_ := Aside0.mk ((by rw [hg]; exact (below_size (by repeat (first | (with_reducible first | exact HB.out | apply below_alloc | apply pw_below_drewN | apply below_drew1 | refine below_set ?_ GE101.out) | exact HB.out))) : w.heap.size ≤ gb107)); have n6_ := Aside0.mk ((by rw [hg]; exact Nat.ne_of_lt (blk_lt (g := gb101) (o := .cells #[.int .i64 0, .int .i64 0] 31 (0, 0)) (by (with_reducible repeat (first | refine blk_drewN ?_ _ | refine blk_drew ?_ | refine blk_alloc ?_ _)); exact BK101.out)) : gb101 ≠ gb107)); have n7_ := Aside0.mk ((by rw [hg]; exact Nat.ne_of_gt (blk_lt (g := gb101) (o := .cells #[.int .i64 0, .int .i64 0] 31 (0, 0)) (by (with_reducible repeat (first | refine blk_drewN ?_ _ | refine blk_drew ?_ | refine blk_alloc ?_ _)); exact BK101.out)) : gb107 ≠ gb101)); clear HO104; clear BK101; clear HB; have HO104 := n0_; have BK101 := n1_; have HB := n2_; have BK107 := n3_; have GW107 := n4_; have GE107 := n5_; have NB101_107 := n6_; have NB107_101 := n7_; clear n0_ n1_ n2_ n3_ n4_ n5_ n6_ n7_; clear hb hbox hg; have hnb7 := NB107_101.out; have hnc7 := NB101_107.out; have hcz8_0 : w6.cell? ⟨gb107, 0, none⟩ = some (.int .i64 0) := (blk_cell BK107.out 0).trans rfl; have hcz8_1 : w6.cell? ⟨gb107, 1, none⟩ = some (.int .i64 0) := (blk_cell BK107.out 1).trans rfl; have hfz8_0 := blk_frozen BK107.out 0; have hfz8_1 := blk_frozen BK107.out 1))
    go_loopg [6, 7] k (fun kq v6 v7 w' => ∃ (x6_1 : List (S66)) (x7_1 : Int) (x102000_1 : Int) (x102001_1 : Int), v7 = .int .i64 x7_1 ∧ Aside0 (secateurref22_Parse.l0 kq t102 x6_1 x7_1 = some (r1, r2, r3)) ∧ Aside0 (kq ≤ k) ∧ Aside0 (Kd.R Kd.string 9 w' w.heap.size (fun _ => True) v103 t102) ∧ Aside0 (Kd.R k66 66 w' w.heap.size (fun _ => True) v6 x6_1) ∧ Aside0 (w'.heap[gb101]? = some (.cells #[.int .i64 x102000_1, .int .i64 x102001_1] 31 (0, 0))) ∧ Aside0 (w'.heap[gb107]? = some (.cells #[.int .i64 t105, .int .i64 t106] 31 (0, 0))) ∧ Aside0 (Below w.heap.size w w'))
    case atStart => exact ⟨(([] : List (S66))), (0), (0), (0), (by first | rfl | (simp; done) | (simp [*]; done)), H', ⟨Nat.le_refl _⟩, ⟨by (with_reducible repeat (first | apply Kd.R_alloc | apply Kd.R_drewN | apply Kd.R_drew)); exact Kd.R_mono (Kd.R_far (p := ⟨gb107, 1, none⟩) (Kd.R_far (p := ⟨gb107, 0, none⟩) (Kd.R_types HO104.out BK107.out (by decide)) (fun _ hk => hk.2) (.int .i64 t105)) (fun _ hk => hk.2) (.int .i64 t106)) (fun _ hk => trivial)⟩, ⟨by first | exact Kd.R_nil _ _ _ _ _ | exact Kd.N_nil _ _ _ _ _ | exact Kd.V_nil _ _ _ _ _ | exact Kd.Q_nil _ _ _ _ _ | exact Kd.S_nil _ _ _ _ _⟩, ⟨by (with_reducible repeat (first | refine blk_drewN ?_ _ | refine blk_drew ?_ | refine blk_alloc ?_ _)); refine blk_far ?_ NB101_107.out _; (with_reducible repeat (first | refine blk_drewN ?_ _ | refine blk_drew ?_ | refine blk_alloc ?_ _)); refine blk_far ?_ NB101_107.out _; (with_reducible repeat (first | refine blk_drewN ?_ _ | refine blk_drew ?_ | refine blk_alloc ?_ _)); exact BK101.out⟩, ⟨by (with_reducible repeat (first | refine blk_drewN ?_ _ | refine blk_drew ?_ | refine blk_alloc ?_ _)); refine blk_put (cs := #[.int .i64 t105, .int .i64 0]) ?_ 1 _ rfl; (with_reducible repeat (first | refine blk_drewN ?_ _ | refine blk_drew ?_ | refine blk_alloc ?_ _)); refine blk_put (cs := #[.int .i64 0, .int .i64 0]) ?_ 0 _ rfl; (with_reducible repeat (first | refine blk_drewN ?_ _ | refine blk_drew ?_ | refine blk_alloc ?_ _)); exact BK107.out⟩, ⟨by repeat (first | (with_reducible first | exact HB.out | apply below_alloc | apply pw_below_drewN | apply below_drew1 | refine below_set ?_ GE101.out | refine below_set ?_ GE107.out) | exact HB.out)⟩⟩
    case round =>
      clear H'
      try clear p2
      try clear c3
      try clear c3b0
      try clear c3b1
      try clear c4
      try clear c5
      try clear c7
      try clear hcz8_0
      try clear hcz8_1
      try clear hfz8_0
      try clear hfz8_1
      obtain ⟨x6_1, x7_1, x102000_1, x102001_1, rfl, HA, HK1, HO_4, HO_6, BK101, BK107, HB⟩ := hrel
      cases gk with
      | zero => exact absurd HA.out (by simp [secateurref22_Parse.l0])
      | succ k1 =>
        have H := HA.out
        clear HA
        simp only [secateurref22_Parse.l0] at H
        by_cases c9 : x7_1 < (t102.length : Int)
        · rw [if_pos c9] at H
          have c9b0 : decide (x7_1 < (t102.length : Int)) = true := decide_eq_true c9
          clear c9
          by_cases c10 : 0 ≤ x7_1
          · rw [if_pos c10] at H
            have c10b0 : decide (0 ≤ x7_1) = true := decide_eq_true c10
            clear c10
            replace H := Option.bind_eq_some_iff.mp H
            obtain ⟨⟨t109, t110, t111, t112, t113, t114⟩, A110, H⟩ := H
            replace H : (if t114 = true then (if x7_1 ≥ 64 then (some (([] : List (S66)), 3, wrap64 (x7_1 + 1))) else (if x6_1.length < 2513169434916 then (secateurref22_Parse.l0 k1 t102 (x6_1 ++ [(⟨t109, t110, t111, t112, t113⟩ : S66)]) (wrap64 (x7_1 + 1))) else (none))) else (some (([] : List (S66)), 10, wrap64 (x7_1 + 1)))) = some (r1, r2, r3) := H
            have A11 := Aside0.mk A110
            clear A110
            by_cases c12 : t114 = true
            · subst c12
              have H1 : (if x7_1 ≥ 64 then (some (([] : List (S66)), 3, wrap64 (x7_1 + 1))) else (if x6_1.length < 2513169434916 then (secateurref22_Parse.l0 k1 t102 (x6_1 ++ [(⟨t109, t110, t111, t112, t113⟩ : S66)]) (wrap64 (x7_1 + 1))) else (none))) = some (r1, r2, r3) := by rw [if_pos rfl] at H; exact H
              clear H
              have H := H1
              clear H1
              by_cases c13 : x7_1 ≥ 64
              · rw [if_pos c13] at H
                have c13b0 : decide (64 ≤ x7_1) = true := decide_eq_true c13
                clear c13
                simp only [Option.some.injEq, Prod.mk.injEq] at H
                obtain ⟨rfl, rfl, rfl⟩ := H
                obtain ⟨Ao14, co14, eo14⟩ := Kd.R_slice HO_4.out
                subst eo14
                have p108 : 0 ≤ (x7_1 : Int) := of_decide_eq_true (by first | (with_reducible assumption) | assumption)
                have q108 : x7_1 < (t102.length : Int) := of_decide_eq_true (by first | (with_reducible assumption) | assumption)
                obtain ⟨ad108, e108, hx108_0⟩ := Kd.at_string (Kd.R_reads' HO_4.out).2.2 x7_1 p108 q108
                cases e108
                replace p108 := eq_true p108
                replace q108 := eq_true q108
                go_wp2_with (first | ((with_reducible refine gate_callee (f := 107) rfl ?_); refine goesL_ (some 30) rfl rfl Tryd.func107 (by kernel_rfl) rfl #[.string (rdOf ByteArray.empty t102 x7_1)] rfl (by (try simp only [List.map_toArray, List.map_cons, List.map_nil]); first | done | rfl | (simp only [List.length_drop, List.length_take]; rfl)) ?_; (with_reducible refine (secateurref22_rule.calls (rdOf ByteArray.empty t102 x7_1) t109 t110 t111 t112 t113 true _ A11.out).mono ?_); rintro e w15 ⟨rfl, hb⟩; refine ⟨_, rfl, ?_⟩; have n0_ := Aside0.mk (Kd.R_below (by (with_reducible repeat (first | apply Kd.R_alloc | apply Kd.R_drewN | apply Kd.R_drew)); exact HO_4.out) hb); have n1_ := Aside0.mk (Kd.R_below (by (with_reducible repeat (first | apply Kd.R_alloc | apply Kd.R_drewN | apply Kd.R_drew)); exact HO_6.out) hb); have n2_ := Aside0.mk (blk_below (g := gb101) (o := .cells #[.int .i64 x102000_1, .int .i64 x102001_1] 31 (0, 0)) (by (with_reducible repeat (first | refine blk_drewN ?_ _ | refine blk_drew ?_ | refine blk_alloc ?_ _)); exact BK101.out) hb); have n3_ := Aside0.mk (blk_below (g := gb107) (o := .cells #[.int .i64 t105, .int .i64 t106] 31 (0, 0)) (by (with_reducible repeat (first | refine blk_drewN ?_ _ | refine blk_drew ?_ | refine blk_alloc ?_ _)); exact BK107.out) hb); have n4_ := Aside0.mk (below_step (by repeat (first | (with_reducible first | exact HB.out | apply below_alloc | apply pw_below_drewN | apply below_drew1 | refine below_set ?_ GE101.out | refine below_set ?_ GE107.out) | exact HB.out)) hb); clear HO_4; clear HO_6; clear BK101; clear BK107; clear HB; have HO_4 := n0_; have HO_6 := n1_; have BK101 := n2_; have BK107 := n3_; have HB := n4_; clear n0_ n1_ n2_ n3_ n4_; (try clear hb); (try clear hb2); (try clear hk); (try clear hi)) | ((with_reducible refine gate_dst (N := 8) rfl ?_); refine box_event ?hg (N := 8) ?hd (cs := #[.bool false, .bool false, .string (⟨#[]⟩ : ByteArray), .string (⟨#[]⟩ : ByteArray), .string (⟨#[]⟩ : ByteArray)]) (t := 66) ?hr ?_; (case hd => rfl); (case hg => rfl); (case hr => first | (go_simp; done) | (go_simp; rfl)); intro gb115 hg w16 hbox hb; have n0_ := Aside0.mk (Kd.R_below (by (with_reducible repeat (first | apply Kd.R_alloc | apply Kd.R_drewN | apply Kd.R_drew)); exact HO_4.out) hb); have n1_ := Aside0.mk (Kd.R_below (Kd.R_elderB (by (with_reducible repeat (first | apply Kd.R_alloc | apply Kd.R_drewN | apply Kd.R_drew)); exact HO_6.out) gb115 (Nat.le_of_eq hg.symm)) hb); have n2_ := Aside0.mk (blk_below (g := gb101) (o := .cells #[.int .i64 x102000_1, .int .i64 x102001_1] 31 (0, 0)) (by (with_reducible repeat (first | refine blk_drewN ?_ _ | refine blk_drew ?_ | refine blk_alloc ?_ _)); exact BK101.out) hb); have n3_ := Aside0.mk (blk_below (g := gb107) (o := .cells #[.int .i64 t105, .int .i64 t106] 31 (0, 0)) (by (with_reducible repeat (first | refine blk_drewN ?_ _ | refine blk_drew ?_ | refine blk_alloc ?_ _)); exact BK107.out) hb); have n4_ := Aside0.mk (below_step (by repeat (first | (with_reducible first | exact HB.out | apply below_alloc | apply pw_below_drewN | apply below_drew1 | refine below_set ?_ GE101.out | refine below_set ?_ GE107.out) | exact HB.out)) hb); have n5_ := Aside0.mk (hbox); have n6_ := Aside0.mk ((by rw [hg]; exact (below_size (by repeat (first | (with_reducible first | exact HB.out | apply below_alloc | apply pw_below_drewN | apply below_drew1 | refine below_set ?_ GE101.out | refine below_set ?_ GE107.out) | exact HB.out))) : w.heap.size ≤ gb115)); have n7_ := Aside0.mk ((by rw [hg]; exact (below_size (by repeat (first | (with_reducible first | exact HB.out | apply below_alloc | apply pw_below_drewN | apply below_drew1 | refine below_set ?_ GE101.out | refine below_set ?_ GE107.out) | exact HB.out))) : w.heap.size ≤ gb115)); have n8_ := Aside0.mk ((by rw [hg]; exact Nat.ne_of_lt (blk_lt (g := gb101) (o := .cells #[.int .i64 x102000_1, .int .i64 x102001_1] 31 (0, 0)) (by (with_reducible repeat (first | refine blk_drewN ?_ _ | refine blk_drew ?_ | refine blk_alloc ?_ _)); exact BK101.out)) : gb101 ≠ gb115)); have n9_ := Aside0.mk ((by rw [hg]; exact Nat.ne_of_gt (blk_lt (g := gb101) (o := .cells #[.int .i64 x102000_1, .int .i64 x102001_1] 31 (0, 0)) (by (with_reducible repeat (first | refine blk_drewN ?_ _ | refine blk_drew ?_ | refine blk_alloc ?_ _)); exact BK101.out)) : gb115 ≠ gb101)); have n10_ := Aside0.mk ((by rw [hg]; exact Nat.ne_of_lt (blk_lt (g := gb107) (o := .cells #[.int .i64 t105, .int .i64 t106] 31 (0, 0)) (by (with_reducible repeat (first | refine blk_drewN ?_ _ | refine blk_drew ?_ | refine blk_alloc ?_ _)); exact BK107.out)) : gb107 ≠ gb115)); have n11_ := Aside0.mk ((by rw [hg]; exact Nat.ne_of_gt (blk_lt (g := gb107) (o := .cells #[.int .i64 t105, .int .i64 t106] 31 (0, 0)) (by (with_reducible repeat (first | refine blk_drewN ?_ _ | refine blk_drew ?_ | refine blk_alloc ?_ _)); exact BK107.out)) : gb115 ≠ gb107)); clear HO_4; clear HO_6; clear BK101; clear BK107; clear HB; have HO_4 := n0_; have HO_6 := n1_; have BK101 := n2_; have BK107 := n3_; have HB := n4_; have BK115 := n5_; have GW115 := n6_; have GE115 := n7_; have NB101_115 := n8_; have NB115_101 := n9_; have NB107_115 := n10_; have NB115_107 := n11_; clear n0_ n1_ n2_ n3_ n4_ n5_ n6_ n7_ n8_ n9_ n10_ n11_; clear hb hbox hg; have hnb17 := NB115_101.out; have hnc17 := NB101_115.out; have hnb18 := NB115_107.out; have hnc18 := NB107_115.out; have hcz19_0 : w16.cell? ⟨gb115, 0, none⟩ = some (.bool false) := (blk_cell BK115.out 0).trans rfl; have hcz19_1 : w16.cell? ⟨gb115, 1, none⟩ = some (.bool false) := (blk_cell BK115.out 1).trans rfl; have hcz19_2 : w16.cell? ⟨gb115, 2, none⟩ = some (.string (⟨#[]⟩ : ByteArray)) := (blk_cell BK115.out 2).trans rfl; have hcz19_3 : w16.cell? ⟨gb115, 3, none⟩ = some (.string (⟨#[]⟩ : ByteArray)) := (blk_cell BK115.out 3).trans rfl; have hcz19_4 : w16.cell? ⟨gb115, 4, none⟩ = some (.string (⟨#[]⟩ : ByteArray)) := (blk_cell BK115.out 4).trans rfl; have hfz19_0 := blk_frozen BK115.out 0; have hfz19_1 := blk_frozen BK115.out 1; have hfz19_2 := blk_frozen BK115.out 2; have hfz19_3 := blk_frozen BK115.out 3; have hfz19_4 := blk_frozen BK115.out 4; have hnb20 := NB101_107.out; have hnc20 := NB107_101.out; have hcz21_0 : w16.cell? ⟨gb101, 0, none⟩ = some (.int .i64 x102000_1) := (blk_cell BK101.out 0).trans rfl; have hcz21_1 : w16.cell? ⟨gb101, 1, none⟩ = some (.int .i64 x102001_1) := (blk_cell BK101.out 1).trans rfl; have hfz21_0 := blk_frozen BK101.out 0; have hfz21_1 := blk_frozen BK101.out 1))
                refine bodyPost_ret (results_tc rfl _ _ gb101 31 #[.int .i64 3, .int .i64 (wrap64 (x7_1 + 1))] (0, 0) _ rfl (by (with_reducible repeat (first | refine blk_drewN ?_ _ | refine blk_drew ?_ | refine blk_alloc ?_ _)); refine blk_put (cs := #[.int .i64 3, .int .i64 x102001_1]) ?_ 1 _ rfl; (with_reducible repeat (first | refine blk_drewN ?_ _ | refine blk_drew ?_ | refine blk_alloc ?_ _)); refine blk_put (cs := #[.int .i64 x102000_1, .int .i64 x102001_1]) ?_ 0 _ rfl; (with_reducible repeat (first | refine blk_drewN ?_ _ | refine blk_drew ?_ | refine blk_alloc ?_ _)); refine blk_far ?_ NB101_115.out _; (with_reducible repeat (first | refine blk_drewN ?_ _ | refine blk_drew ?_ | refine blk_alloc ?_ _)); refine blk_far ?_ NB101_115.out _; (with_reducible repeat (first | refine blk_drewN ?_ _ | refine blk_drew ?_ | refine blk_alloc ?_ _)); refine blk_far ?_ NB101_115.out _; (with_reducible repeat (first | refine blk_drewN ?_ _ | refine blk_drew ?_ | refine blk_alloc ?_ _)); refine blk_far ?_ NB101_115.out _; (with_reducible repeat (first | refine blk_drewN ?_ _ | refine blk_drew ?_ | refine blk_alloc ?_ _)); refine blk_far ?_ NB101_115.out _; (with_reducible repeat (first | refine blk_drewN ?_ _ | refine blk_drew ?_ | refine blk_alloc ?_ _)); exact BK101.out) Tryd.underlying31 rfl (by kernel_rfl)) rfl ?_
                exact ⟨_, by first | rfl | (simp [errW_none, errW_some] <;> rfl) | (simp [*, errW_none, errW_some] <;> rfl), by first | exact Kd.R_nil _ _ _ _ _ | exact Kd.N_nil _ _ _ _ _ | exact Kd.V_nil _ _ _ _ _ | exact Kd.Q_nil _ _ _ _ _ | exact Kd.S_nil _ _ _ _ _, by repeat (first | (with_reducible first | exact HB.out | apply below_alloc | apply pw_below_drewN | apply below_drew1 | refine below_set ?_ GE101.out | refine below_set ?_ GE107.out | refine below_set ?_ GE115.out) | exact HB.out)⟩
              · rw [if_neg c13] at H
                have c13b0 : decide (64 ≤ x7_1) = false := decide_eq_false c13
                clear c13
                by_cases c22 : x6_1.length < 2513169434916
                · rw [if_pos c22] at H
                  have LMc22 := Aside0.mk c22
                  clear c22
                  obtain ⟨y116, hy116⟩ : ∃ y_ : List (S66), y_ = (x6_1 ++ [(⟨t109, t110, t111, t112, t113⟩ : S66)]) := ⟨_, rfl⟩
                  replace H : (secateurref22_Parse.l0 k1 t102 y116 (wrap64 (x7_1 + 1))) = some (r1, r2, r3) := by first | (rw [hy116]; with_reducible exact H) | (have H2_ := (Option.bind_some _ _).symm.trans H; rw [hy116]; with_reducible exact H2_) | (have H2_ := (Option.bind_some _ _).symm.trans H; with_reducible exact H2_) | with_reducible exact H | (rw [hy116]; exact H) | exact H
                  have Ny116 := Aside0.mk hy116
                  clear hy116
                  have H' := Aside0.mk H
                  clear H
                  obtain ⟨Ao23, co23, eo23⟩ := Kd.R_slice HO_4.out
                  subst eo23
                  have p108 : 0 ≤ (x7_1 : Int) := of_decide_eq_true (by first | (with_reducible assumption) | assumption)
                  have q108 : x7_1 < (t102.length : Int) := of_decide_eq_true (by first | (with_reducible assumption) | assumption)
                  obtain ⟨ad108, e108, hx108_0⟩ := Kd.at_string (Kd.R_reads' HO_4.out).2.2 x7_1 p108 q108
                  cases e108
                  replace p108 := eq_true p108
                  replace q108 := eq_true q108
                  go_wp2_with (first | ((with_reducible refine gate_callee (f := 107) rfl ?_); refine goesL_ (some 30) rfl rfl Tryd.func107 (by kernel_rfl) rfl #[.string (rdOf ByteArray.empty t102 x7_1)] rfl (by (try simp only [List.map_toArray, List.map_cons, List.map_nil]); first | done | rfl | (simp only [List.length_drop, List.length_take]; rfl)) ?_; (with_reducible refine (secateurref22_rule.calls (rdOf ByteArray.empty t102 x7_1) t109 t110 t111 t112 t113 true _ A11.out).mono ?_); rintro e w24 ⟨rfl, hb⟩; refine ⟨_, rfl, ?_⟩; have n0_ := Aside0.mk (Kd.R_below (by (with_reducible repeat (first | apply Kd.R_alloc | apply Kd.R_drewN | apply Kd.R_drew)); exact HO_4.out) hb); have n1_ := Aside0.mk (Kd.R_below (by (with_reducible repeat (first | apply Kd.R_alloc | apply Kd.R_drewN | apply Kd.R_drew)); exact HO_6.out) hb); have n2_ := Aside0.mk (blk_below (g := gb101) (o := .cells #[.int .i64 x102000_1, .int .i64 x102001_1] 31 (0, 0)) (by (with_reducible repeat (first | refine blk_drewN ?_ _ | refine blk_drew ?_ | refine blk_alloc ?_ _)); exact BK101.out) hb); have n3_ := Aside0.mk (blk_below (g := gb107) (o := .cells #[.int .i64 t105, .int .i64 t106] 31 (0, 0)) (by (with_reducible repeat (first | refine blk_drewN ?_ _ | refine blk_drew ?_ | refine blk_alloc ?_ _)); exact BK107.out) hb); have n4_ := Aside0.mk (below_step (by repeat (first | (with_reducible first | exact HB.out | apply below_alloc | apply pw_below_drewN | apply below_drew1 | refine below_set ?_ GE101.out | refine below_set ?_ GE107.out) | exact HB.out)) hb); clear HO_4; clear HO_6; clear BK101; clear BK107; clear HB; have HO_4 := n0_; have HO_6 := n1_; have BK101 := n2_; have BK107 := n3_; have HB := n4_; clear n0_ n1_ n2_ n3_ n4_; (try clear hb); (try clear hb2); (try clear hk); (try clear hi)) | ((with_reducible refine gate_dst (N := 8) rfl ?_); refine box_event ?hg (N := 8) ?hd (cs := #[.bool false, .bool false, .string (⟨#[]⟩ : ByteArray), .string (⟨#[]⟩ : ByteArray), .string (⟨#[]⟩ : ByteArray)]) (t := 66) ?hr ?_; (case hd => rfl); (case hg => rfl); (case hr => first | (go_simp; done) | (go_simp; rfl)); intro gb115 hg w25 hbox hb; have n0_ := Aside0.mk (Kd.R_below (by (with_reducible repeat (first | apply Kd.R_alloc | apply Kd.R_drewN | apply Kd.R_drew)); exact HO_4.out) hb); have n1_ := Aside0.mk (Kd.R_below (Kd.R_elderB (by (with_reducible repeat (first | apply Kd.R_alloc | apply Kd.R_drewN | apply Kd.R_drew)); exact HO_6.out) gb115 (Nat.le_of_eq hg.symm)) hb); have n2_ := Aside0.mk (blk_below (g := gb101) (o := .cells #[.int .i64 x102000_1, .int .i64 x102001_1] 31 (0, 0)) (by (with_reducible repeat (first | refine blk_drewN ?_ _ | refine blk_drew ?_ | refine blk_alloc ?_ _)); exact BK101.out) hb); have n3_ := Aside0.mk (blk_below (g := gb107) (o := .cells #[.int .i64 t105, .int .i64 t106] 31 (0, 0)) (by (with_reducible repeat (first | refine blk_drewN ?_ _ | refine blk_drew ?_ | refine blk_alloc ?_ _)); exact BK107.out) hb); have n4_ := Aside0.mk (below_step (by repeat (first | (with_reducible first | exact HB.out | apply below_alloc | apply pw_below_drewN | apply below_drew1 | refine below_set ?_ GE101.out | refine below_set ?_ GE107.out) | exact HB.out)) hb); have n5_ := Aside0.mk (hbox); have n6_ := Aside0.mk ((by rw [hg]; exact (below_size (by repeat (first | (with_reducible first | exact HB.out | apply below_alloc | apply pw_below_drewN | apply below_drew1 | refine below_set ?_ GE101.out | refine below_set ?_ GE107.out) | exact HB.out))) : w.heap.size ≤ gb115)); have n7_ := Aside0.mk ((by rw [hg]; exact (below_size (by repeat (first | (with_reducible first | exact HB.out | apply below_alloc | apply pw_below_drewN | apply below_drew1 | refine below_set ?_ GE101.out | refine below_set ?_ GE107.out) | exact HB.out))) : w.heap.size ≤ gb115)); have n8_ := Aside0.mk ((by rw [hg]; exact Nat.ne_of_lt (blk_lt (g := gb101) (o := .cells #[.int .i64 x102000_1, .int .i64 x102001_1] 31 (0, 0)) (by (with_reducible repeat (first | refine blk_drewN ?_ _ | refine blk_drew ?_ | refine blk_alloc ?_ _)); exact BK101.out)) : gb101 ≠ gb115)); have n9_ := Aside0.mk ((by rw [hg]; exact Nat.ne_of_gt (blk_lt (g := gb101) (o := .cells #[.int .i64 x102000_1, .int .i64 x102001_1] 31 (0, 0)) (by (with_reducible repeat (first | refine blk_drewN ?_ _ | refine blk_drew ?_ | refine blk_alloc ?_ _)); exact BK101.out)) : gb115 ≠ gb101)); have n10_ := Aside0.mk ((by rw [hg]; exact Nat.ne_of_lt (blk_lt (g := gb107) (o := .cells #[.int .i64 t105, .int .i64 t106] 31 (0, 0)) (by (with_reducible repeat (first | refine blk_drewN ?_ _ | refine blk_drew ?_ | refine blk_alloc ?_ _)); exact BK107.out)) : gb107 ≠ gb115)); have n11_ := Aside0.mk ((by rw [hg]; exact Nat.ne_of_gt (blk_lt (g := gb107) (o := .cells #[.int .i64 t105, .int .i64 t106] 31 (0, 0)) (by (with_reducible repeat (first | refine blk_drewN ?_ _ | refine blk_drew ?_ | refine blk_alloc ?_ _)); exact BK107.out)) : gb115 ≠ gb107)); clear HO_4; clear HO_6; clear BK101; clear BK107; clear HB; have HO_4 := n0_; have HO_6 := n1_; have BK101 := n2_; have BK107 := n3_; have HB := n4_; have BK115 := n5_; have GW115 := n6_; have GE115 := n7_; have NB101_115 := n8_; have NB115_101 := n9_; have NB107_115 := n10_; have NB115_107 := n11_; clear n0_ n1_ n2_ n3_ n4_ n5_ n6_ n7_ n8_ n9_ n10_ n11_; clear hb hbox hg; have hnb26 := NB115_101.out; have hnc26 := NB101_115.out; have hnb27 := NB115_107.out; have hnc27 := NB107_115.out; have hcz28_0 : w25.cell? ⟨gb115, 0, none⟩ = some (.bool false) := (blk_cell BK115.out 0).trans rfl; have hcz28_1 : w25.cell? ⟨gb115, 1, none⟩ = some (.bool false) := (blk_cell BK115.out 1).trans rfl; have hcz28_2 : w25.cell? ⟨gb115, 2, none⟩ = some (.string (⟨#[]⟩ : ByteArray)) := (blk_cell BK115.out 2).trans rfl; have hcz28_3 : w25.cell? ⟨gb115, 3, none⟩ = some (.string (⟨#[]⟩ : ByteArray)) := (blk_cell BK115.out 3).trans rfl; have hcz28_4 : w25.cell? ⟨gb115, 4, none⟩ = some (.string (⟨#[]⟩ : ByteArray)) := (blk_cell BK115.out 4).trans rfl; have hfz28_0 := blk_frozen BK115.out 0; have hfz28_1 := blk_frozen BK115.out 1; have hfz28_2 := blk_frozen BK115.out 2; have hfz28_3 := blk_frozen BK115.out 3; have hfz28_4 := blk_frozen BK115.out 4) | ((with_reducible refine gate_builtin (b := .append) (xs := #[.tmp 43, .tmp 45]) rfl ?_); at_builtin; refine Kd.R_append k66 (w0 := w) w.heap.size rfl (.tmp 43) (.tmp 45) 64 66 (.agg #[(.bool false), (.bool false), (.string ⟨#[]⟩), (.string ⟨#[]⟩), (.string ⟨#[]⟩)]) 56 rfl Tryd.underlying64 info66 rfl (by decide) (by omega) u6 x6_1 (⟨t109, t110, t111, t112, t113⟩ : S66) [.bool t109, .bool t110, .string t111, .string t112, .string t113] (fun k_ => k_ ≠ gb115) (fun _ => False) rfl (by first | (go_simp; done) | (go_simp; rfl)) ?aP (fun _ hk => hk.elim) ?aF ?aO ?aB ?aS ?aL ?_; (case aP => exact k66_mkM _ _ _ (⟨t109, t110, t111, t112, t113⟩ : S66)); (case aB => exact (by repeat (first | (with_reducible first | exact HB.out | apply below_alloc | apply pw_below_drewN | apply below_drew1 | refine below_set ?_ GE101.out | refine below_set ?_ GE107.out | refine below_set ?_ GE115.out) | exact HB.out))); (case aF => exact (fun k_ hk => Kd.freshB (g := gb115) (o := .cells #[.bool t109, .bool t110, .string t111, .string t112, .string t113] 66 (0, 0)) (by (with_reducible repeat (first | refine blk_drewN ?_ _ | refine blk_drew ?_ | refine blk_alloc ?_ _)); refine blk_put (cs := #[.bool t109, .bool t110, .string t111, .string t112, .string (⟨#[]⟩ : ByteArray)]) ?_ 4 _ rfl; (with_reducible repeat (first | refine blk_drewN ?_ _ | refine blk_drew ?_ | refine blk_alloc ?_ _)); refine blk_put (cs := #[.bool t109, .bool t110, .string t111, .string (⟨#[]⟩ : ByteArray), .string (⟨#[]⟩ : ByteArray)]) ?_ 3 _ rfl; (with_reducible repeat (first | refine blk_drewN ?_ _ | refine blk_drew ?_ | refine blk_alloc ?_ _)); refine blk_put (cs := #[.bool t109, .bool t110, .string (⟨#[]⟩ : ByteArray), .string (⟨#[]⟩ : ByteArray), .string (⟨#[]⟩ : ByteArray)]) ?_ 2 _ rfl; (with_reducible repeat (first | refine blk_drewN ?_ _ | refine blk_drew ?_ | refine blk_alloc ?_ _)); refine blk_put (cs := #[.bool t109, .bool false, .string (⟨#[]⟩ : ByteArray), .string (⟨#[]⟩ : ByteArray), .string (⟨#[]⟩ : ByteArray)]) ?_ 1 _ rfl; (with_reducible repeat (first | refine blk_drewN ?_ _ | refine blk_drew ?_ | refine blk_alloc ?_ _)); refine blk_put (cs := #[.bool false, .bool false, .string (⟨#[]⟩ : ByteArray), .string (⟨#[]⟩ : ByteArray), .string (⟨#[]⟩ : ByteArray)]) ?_ 0 _ rfl; (with_reducible repeat (first | refine blk_drewN ?_ _ | refine blk_drew ?_ | refine blk_alloc ?_ _)); exact BK115.out) k_ hk)); (case aO => exact (by (with_reducible repeat (first | apply Kd.R_alloc | apply Kd.R_drewN | apply Kd.R_drew)); exact Kd.R_mono (Kd.R_far (p := ⟨gb115, 4, none⟩) (Kd.R_far (p := ⟨gb115, 3, none⟩) (Kd.R_far (p := ⟨gb115, 2, none⟩) (Kd.R_far (p := ⟨gb115, 1, none⟩) (Kd.R_far (p := ⟨gb115, 0, none⟩) (Kd.R_mono HO_6.out (fun k_ hk => (⟨hk, hk.2⟩ : _ ∧ k_ ≠ gb115))) (fun _ hk => hk.2) (.bool t109)) (fun _ hk => hk.2) (.bool t110)) (fun _ hk => hk.2) (.string t111)) (fun _ hk => hk.2) (.string t112)) (fun _ hk => hk.2) (.string t113)) (fun _ hk => hk.1.2))); (case aS => exact (below_size (by repeat (first | (with_reducible first | exact HB.out | apply below_alloc | apply pw_below_drewN | apply below_drew1 | refine below_set ?_ GE101.out | refine below_set ?_ GE107.out | refine below_set ?_ GE115.out) | exact HB.out)))); (case aL => have := LMc22.out; omega); intro v117 w29 ho hb hg hat; rw [← Ny116.out] at ho; have n0_ := Aside0.mk (Kd.R_over' (by (with_reducible repeat (first | apply Kd.R_alloc | apply Kd.R_drewN | apply Kd.R_drew)); exact (Kd.R_mono (Kd.R_far (p := ⟨gb115, 4, none⟩) (Kd.R_far (p := ⟨gb115, 3, none⟩) (Kd.R_far (p := ⟨gb115, 2, none⟩) (Kd.R_far (p := ⟨gb115, 1, none⟩) (Kd.R_far (p := ⟨gb115, 0, none⟩) (Kd.R_types HO_4.out BK115.out (by decide)) (fun _ hk => hk.2) (.bool t109)) (fun _ hk => hk.2) (.bool t110)) (fun _ hk => hk.2) (.string t111)) (fun _ hk => hk.2) (.string t112)) (fun _ hk => hk.2) (.string t113)) (fun _ h_ => h_.1))) (Kd.R_typed (by (with_reducible repeat (first | apply Kd.R_alloc | apply Kd.R_drewN | apply Kd.R_drew)); exact (Kd.R_mono (Kd.R_far (p := ⟨gb115, 4, none⟩) (Kd.R_far (p := ⟨gb115, 3, none⟩) (Kd.R_far (p := ⟨gb115, 2, none⟩) (Kd.R_far (p := ⟨gb115, 1, none⟩) (Kd.R_far (p := ⟨gb115, 0, none⟩) (Kd.R_mono HO_6.out (fun k_ hk => (⟨hk, hk.2⟩ : _ ∧ k_ ≠ gb115))) (fun _ hk => hk.2) (.bool t109)) (fun _ hk => hk.2) (.bool t110)) (fun _ hk => hk.2) (.string t111)) (fun _ hk => hk.2) (.string t112)) (fun _ hk => hk.2) (.string t113)) (fun _ h_ => h_.1)))) (by decide) hg); have n1_ := Aside0.mk (blk_grown (g := gb101) (o := .cells #[.int .i64 x102000_1, .int .i64 x102001_1] 31 (0, 0)) (by (with_reducible repeat (first | refine blk_drewN ?_ _ | refine blk_drew ?_ | refine blk_alloc ?_ _)); refine blk_far ?_ NB101_115.out _; (with_reducible repeat (first | refine blk_drewN ?_ _ | refine blk_drew ?_ | refine blk_alloc ?_ _)); refine blk_far ?_ NB101_115.out _; (with_reducible repeat (first | refine blk_drewN ?_ _ | refine blk_drew ?_ | refine blk_alloc ?_ _)); refine blk_far ?_ NB101_115.out _; (with_reducible repeat (first | refine blk_drewN ?_ _ | refine blk_drew ?_ | refine blk_alloc ?_ _)); refine blk_far ?_ NB101_115.out _; (with_reducible repeat (first | refine blk_drewN ?_ _ | refine blk_drew ?_ | refine blk_alloc ?_ _)); refine blk_far ?_ NB101_115.out _; (with_reducible repeat (first | refine blk_drewN ?_ _ | refine blk_drew ?_ | refine blk_alloc ?_ _)); exact BK101.out) hg (Kd.R_ne HO_6.out BK101.out (by decide))); have n2_ := Aside0.mk (blk_grown (g := gb107) (o := .cells #[.int .i64 t105, .int .i64 t106] 31 (0, 0)) (by (with_reducible repeat (first | refine blk_drewN ?_ _ | refine blk_drew ?_ | refine blk_alloc ?_ _)); refine blk_far ?_ NB107_115.out _; (with_reducible repeat (first | refine blk_drewN ?_ _ | refine blk_drew ?_ | refine blk_alloc ?_ _)); refine blk_far ?_ NB107_115.out _; (with_reducible repeat (first | refine blk_drewN ?_ _ | refine blk_drew ?_ | refine blk_alloc ?_ _)); refine blk_far ?_ NB107_115.out _; (with_reducible repeat (first | refine blk_drewN ?_ _ | refine blk_drew ?_ | refine blk_alloc ?_ _)); refine blk_far ?_ NB107_115.out _; (with_reducible repeat (first | refine blk_drewN ?_ _ | refine blk_drew ?_ | refine blk_alloc ?_ _)); refine blk_far ?_ NB107_115.out _; (with_reducible repeat (first | refine blk_drewN ?_ _ | refine blk_drew ?_ | refine blk_alloc ?_ _)); exact BK107.out) hg (Kd.R_ne HO_6.out BK107.out (by decide))); have n3_ := Aside0.mk (blk_grown (g := gb115) (o := .cells #[.bool t109, .bool t110, .string t111, .string t112, .string t113] 66 (0, 0)) (by (with_reducible repeat (first | refine blk_drewN ?_ _ | refine blk_drew ?_ | refine blk_alloc ?_ _)); refine blk_put (cs := #[.bool t109, .bool t110, .string t111, .string t112, .string (⟨#[]⟩ : ByteArray)]) ?_ 4 _ rfl; (with_reducible repeat (first | refine blk_drewN ?_ _ | refine blk_drew ?_ | refine blk_alloc ?_ _)); refine blk_put (cs := #[.bool t109, .bool t110, .string t111, .string (⟨#[]⟩ : ByteArray), .string (⟨#[]⟩ : ByteArray)]) ?_ 3 _ rfl; (with_reducible repeat (first | refine blk_drewN ?_ _ | refine blk_drew ?_ | refine blk_alloc ?_ _)); refine blk_put (cs := #[.bool t109, .bool t110, .string (⟨#[]⟩ : ByteArray), .string (⟨#[]⟩ : ByteArray), .string (⟨#[]⟩ : ByteArray)]) ?_ 2 _ rfl; (with_reducible repeat (first | refine blk_drewN ?_ _ | refine blk_drew ?_ | refine blk_alloc ?_ _)); refine blk_put (cs := #[.bool t109, .bool false, .string (⟨#[]⟩ : ByteArray), .string (⟨#[]⟩ : ByteArray), .string (⟨#[]⟩ : ByteArray)]) ?_ 1 _ rfl; (with_reducible repeat (first | refine blk_drewN ?_ _ | refine blk_drew ?_ | refine blk_alloc ?_ _)); refine blk_put (cs := #[.bool false, .bool false, .string (⟨#[]⟩ : ByteArray), .string (⟨#[]⟩ : ByteArray), .string (⟨#[]⟩ : ByteArray)]) ?_ 0 _ rfl; (with_reducible repeat (first | refine blk_drewN ?_ _ | refine blk_drew ?_ | refine blk_alloc ?_ _)); exact BK115.out) hg (Kd.R_away HO_6.out (fun _ hk => hk.2))); have n4_ := Aside0.mk (hb); have n5_ := Aside0.mk (ho); clear HO_4; clear BK101; clear BK107; clear BK115; clear HB; clear HO_6; have HO_4 := n0_; have BK101 := n1_; have BK107 := n2_; have BK115 := n3_; have HB := n4_; have HO118 := n5_; clear n0_ n1_ n2_ n3_ n4_ n5_; clear ho hb hg hat))
                  go_roundg k1
                  case measure => have := HK1.out; omega
                  case rel => exact ⟨(y116), (wrap64 (x7_1 + 1)), (x102000_1), (x102001_1), (by first | rfl | (simp; done) | (simp [*]; done)), H', ⟨by have := HK1.out; omega⟩, ⟨by (with_reducible repeat (first | apply Kd.R_alloc | apply Kd.R_drewN | apply Kd.R_drew)); exact HO_4.out⟩, ⟨by (with_reducible repeat (first | apply Kd.R_alloc | apply Kd.R_drewN | apply Kd.R_drew)); exact Kd.R_mono HO118.out (fun _ hk => trivial)⟩, ⟨by (with_reducible repeat (first | refine blk_drewN ?_ _ | refine blk_drew ?_ | refine blk_alloc ?_ _)); exact BK101.out⟩, ⟨by (with_reducible repeat (first | refine blk_drewN ?_ _ | refine blk_drew ?_ | refine blk_alloc ?_ _)); exact BK107.out⟩, ⟨by repeat (first | (with_reducible first | exact HB.out | apply below_alloc | apply pw_below_drewN | apply below_drew1 | refine below_set ?_ GE101.out | refine below_set ?_ GE107.out | refine below_set ?_ GE115.out) | exact HB.out)⟩⟩
                · rw [if_neg c22] at H
                  exact absurd H (by simp)
            · replace c12 := Bool.eq_false_iff.mpr c12
              subst c12
              have H1 : (some (([] : List (S66)), 10, wrap64 (x7_1 + 1))) = some (r1, r2, r3) := by rw [if_neg (show ¬ (false = true) by decide)] at H; exact H
              clear H
              have H := H1
              clear H1
              simp only [Option.some.injEq, Prod.mk.injEq] at H
              obtain ⟨rfl, rfl, rfl⟩ := H
              obtain ⟨Ao30, co30, eo30⟩ := Kd.R_slice HO_4.out
              subst eo30
              have p108 : 0 ≤ (x7_1 : Int) := of_decide_eq_true (by first | (with_reducible assumption) | assumption)
              have q108 : x7_1 < (t102.length : Int) := of_decide_eq_true (by first | (with_reducible assumption) | assumption)
              obtain ⟨ad108, e108, hx108_0⟩ := Kd.at_string (Kd.R_reads' HO_4.out).2.2 x7_1 p108 q108
              cases e108
              replace p108 := eq_true p108
              replace q108 := eq_true q108
              go_wp2_with (first | ((with_reducible refine gate_callee (f := 107) rfl ?_); refine goesL_ (some 30) rfl rfl Tryd.func107 (by kernel_rfl) rfl #[.string (rdOf ByteArray.empty t102 x7_1)] rfl (by (try simp only [List.map_toArray, List.map_cons, List.map_nil]); first | done | rfl | (simp only [List.length_drop, List.length_take]; rfl)) ?_; (with_reducible refine (secateurref22_rule.calls (rdOf ByteArray.empty t102 x7_1) t109 t110 t111 t112 t113 false _ A11.out).mono ?_); rintro e w31 ⟨rfl, hb⟩; refine ⟨_, rfl, ?_⟩; have n0_ := Aside0.mk (Kd.R_below (by (with_reducible repeat (first | apply Kd.R_alloc | apply Kd.R_drewN | apply Kd.R_drew)); exact HO_4.out) hb); have n1_ := Aside0.mk (Kd.R_below (by (with_reducible repeat (first | apply Kd.R_alloc | apply Kd.R_drewN | apply Kd.R_drew)); exact HO_6.out) hb); have n2_ := Aside0.mk (blk_below (g := gb101) (o := .cells #[.int .i64 x102000_1, .int .i64 x102001_1] 31 (0, 0)) (by (with_reducible repeat (first | refine blk_drewN ?_ _ | refine blk_drew ?_ | refine blk_alloc ?_ _)); exact BK101.out) hb); have n3_ := Aside0.mk (blk_below (g := gb107) (o := .cells #[.int .i64 t105, .int .i64 t106] 31 (0, 0)) (by (with_reducible repeat (first | refine blk_drewN ?_ _ | refine blk_drew ?_ | refine blk_alloc ?_ _)); exact BK107.out) hb); have n4_ := Aside0.mk (below_step (by repeat (first | (with_reducible first | exact HB.out | apply below_alloc | apply pw_below_drewN | apply below_drew1 | refine below_set ?_ GE101.out | refine below_set ?_ GE107.out) | exact HB.out)) hb); clear HO_4; clear HO_6; clear BK101; clear BK107; clear HB; have HO_4 := n0_; have HO_6 := n1_; have BK101 := n2_; have BK107 := n3_; have HB := n4_; clear n0_ n1_ n2_ n3_ n4_; (try clear hb); (try clear hb2); (try clear hk); (try clear hi)) | ((with_reducible refine gate_dst (N := 8) rfl ?_); refine box_event ?hg (N := 8) ?hd (cs := #[.bool false, .bool false, .string (⟨#[]⟩ : ByteArray), .string (⟨#[]⟩ : ByteArray), .string (⟨#[]⟩ : ByteArray)]) (t := 66) ?hr ?_; (case hd => rfl); (case hg => rfl); (case hr => first | (go_simp; done) | (go_simp; rfl)); intro gb115 hg w32 hbox hb; have n0_ := Aside0.mk (Kd.R_below (by (with_reducible repeat (first | apply Kd.R_alloc | apply Kd.R_drewN | apply Kd.R_drew)); exact HO_4.out) hb); have n1_ := Aside0.mk (Kd.R_below (Kd.R_elderB (by (with_reducible repeat (first | apply Kd.R_alloc | apply Kd.R_drewN | apply Kd.R_drew)); exact HO_6.out) gb115 (Nat.le_of_eq hg.symm)) hb); have n2_ := Aside0.mk (blk_below (g := gb101) (o := .cells #[.int .i64 x102000_1, .int .i64 x102001_1] 31 (0, 0)) (by (with_reducible repeat (first | refine blk_drewN ?_ _ | refine blk_drew ?_ | refine blk_alloc ?_ _)); exact BK101.out) hb); have n3_ := Aside0.mk (blk_below (g := gb107) (o := .cells #[.int .i64 t105, .int .i64 t106] 31 (0, 0)) (by (with_reducible repeat (first | refine blk_drewN ?_ _ | refine blk_drew ?_ | refine blk_alloc ?_ _)); exact BK107.out) hb); have n4_ := Aside0.mk (below_step (by repeat (first | (with_reducible first | exact HB.out | apply below_alloc | apply pw_below_drewN | apply below_drew1 | refine below_set ?_ GE101.out | refine below_set ?_ GE107.out) | exact HB.out)) hb); have n5_ := Aside0.mk (hbox); have n6_ := Aside0.mk ((by rw [hg]; exact (below_size (by repeat (first | (with_reducible first | exact HB.out | apply below_alloc | apply pw_below_drewN | apply below_drew1 | refine below_set ?_ GE101.out | refine below_set ?_ GE107.out) | exact HB.out))) : w.heap.size ≤ gb115)); have n7_ := Aside0.mk ((by rw [hg]; exact (below_size (by repeat (first | (with_reducible first | exact HB.out | apply below_alloc | apply pw_below_drewN | apply below_drew1 | refine below_set ?_ GE101.out | refine below_set ?_ GE107.out) | exact HB.out))) : w.heap.size ≤ gb115)); have n8_ := Aside0.mk ((by rw [hg]; exact Nat.ne_of_lt (blk_lt (g := gb101) (o := .cells #[.int .i64 x102000_1, .int .i64 x102001_1] 31 (0, 0)) (by (with_reducible repeat (first | refine blk_drewN ?_ _ | refine blk_drew ?_ | refine blk_alloc ?_ _)); exact BK101.out)) : gb101 ≠ gb115)); have n9_ := Aside0.mk ((by rw [hg]; exact Nat.ne_of_gt (blk_lt (g := gb101) (o := .cells #[.int .i64 x102000_1, .int .i64 x102001_1] 31 (0, 0)) (by (with_reducible repeat (first | refine blk_drewN ?_ _ | refine blk_drew ?_ | refine blk_alloc ?_ _)); exact BK101.out)) : gb115 ≠ gb101)); have n10_ := Aside0.mk ((by rw [hg]; exact Nat.ne_of_lt (blk_lt (g := gb107) (o := .cells #[.int .i64 t105, .int .i64 t106] 31 (0, 0)) (by (with_reducible repeat (first | refine blk_drewN ?_ _ | refine blk_drew ?_ | refine blk_alloc ?_ _)); exact BK107.out)) : gb107 ≠ gb115)); have n11_ := Aside0.mk ((by rw [hg]; exact Nat.ne_of_gt (blk_lt (g := gb107) (o := .cells #[.int .i64 t105, .int .i64 t106] 31 (0, 0)) (by (with_reducible repeat (first | refine blk_drewN ?_ _ | refine blk_drew ?_ | refine blk_alloc ?_ _)); exact BK107.out)) : gb115 ≠ gb107)); clear HO_4; clear HO_6; clear BK101; clear BK107; clear HB; have HO_4 := n0_; have HO_6 := n1_; have BK101 := n2_; have BK107 := n3_; have HB := n4_; have BK115 := n5_; have GW115 := n6_; have GE115 := n7_; have NB101_115 := n8_; have NB115_101 := n9_; have NB107_115 := n10_; have NB115_107 := n11_; clear n0_ n1_ n2_ n3_ n4_ n5_ n6_ n7_ n8_ n9_ n10_ n11_; clear hb hbox hg; have hnb33 := NB115_101.out; have hnc33 := NB101_115.out; have hnb34 := NB115_107.out; have hnc34 := NB107_115.out; have hcz35_0 : w32.cell? ⟨gb115, 0, none⟩ = some (.bool false) := (blk_cell BK115.out 0).trans rfl; have hcz35_1 : w32.cell? ⟨gb115, 1, none⟩ = some (.bool false) := (blk_cell BK115.out 1).trans rfl; have hcz35_2 : w32.cell? ⟨gb115, 2, none⟩ = some (.string (⟨#[]⟩ : ByteArray)) := (blk_cell BK115.out 2).trans rfl; have hcz35_3 : w32.cell? ⟨gb115, 3, none⟩ = some (.string (⟨#[]⟩ : ByteArray)) := (blk_cell BK115.out 3).trans rfl; have hcz35_4 : w32.cell? ⟨gb115, 4, none⟩ = some (.string (⟨#[]⟩ : ByteArray)) := (blk_cell BK115.out 4).trans rfl; have hfz35_0 := blk_frozen BK115.out 0; have hfz35_1 := blk_frozen BK115.out 1; have hfz35_2 := blk_frozen BK115.out 2; have hfz35_3 := blk_frozen BK115.out 3; have hfz35_4 := blk_frozen BK115.out 4; have hnb36 := NB101_107.out; have hnc36 := NB107_101.out; have hcz37_0 : w32.cell? ⟨gb101, 0, none⟩ = some (.int .i64 x102000_1) := (blk_cell BK101.out 0).trans rfl; have hcz37_1 : w32.cell? ⟨gb101, 1, none⟩ = some (.int .i64 x102001_1) := (blk_cell BK101.out 1).trans rfl; have hfz37_0 := blk_frozen BK101.out 0; have hfz37_1 := blk_frozen BK101.out 1))
              refine bodyPost_ret (results_tc rfl _ _ gb101 31 #[.int .i64 10, .int .i64 (wrap64 (x7_1 + 1))] (0, 0) _ rfl (by (with_reducible repeat (first | refine blk_drewN ?_ _ | refine blk_drew ?_ | refine blk_alloc ?_ _)); refine blk_put (cs := #[.int .i64 10, .int .i64 x102001_1]) ?_ 1 _ rfl; (with_reducible repeat (first | refine blk_drewN ?_ _ | refine blk_drew ?_ | refine blk_alloc ?_ _)); refine blk_put (cs := #[.int .i64 x102000_1, .int .i64 x102001_1]) ?_ 0 _ rfl; (with_reducible repeat (first | refine blk_drewN ?_ _ | refine blk_drew ?_ | refine blk_alloc ?_ _)); refine blk_far ?_ NB101_115.out _; (with_reducible repeat (first | refine blk_drewN ?_ _ | refine blk_drew ?_ | refine blk_alloc ?_ _)); refine blk_far ?_ NB101_115.out _; (with_reducible repeat (first | refine blk_drewN ?_ _ | refine blk_drew ?_ | refine blk_alloc ?_ _)); refine blk_far ?_ NB101_115.out _; (with_reducible repeat (first | refine blk_drewN ?_ _ | refine blk_drew ?_ | refine blk_alloc ?_ _)); refine blk_far ?_ NB101_115.out _; (with_reducible repeat (first | refine blk_drewN ?_ _ | refine blk_drew ?_ | refine blk_alloc ?_ _)); refine blk_far ?_ NB101_115.out _; (with_reducible repeat (first | refine blk_drewN ?_ _ | refine blk_drew ?_ | refine blk_alloc ?_ _)); exact BK101.out) Tryd.underlying31 rfl (by kernel_rfl)) rfl ?_
              exact ⟨_, by first | rfl | (simp [errW_none, errW_some] <;> rfl) | (simp [*, errW_none, errW_some] <;> rfl), by first | exact Kd.R_nil _ _ _ _ _ | exact Kd.N_nil _ _ _ _ _ | exact Kd.V_nil _ _ _ _ _ | exact Kd.Q_nil _ _ _ _ _ | exact Kd.S_nil _ _ _ _ _, by repeat (first | (with_reducible first | exact HB.out | apply below_alloc | apply pw_below_drewN | apply below_drew1 | refine below_set ?_ GE101.out | refine below_set ?_ GE107.out | refine below_set ?_ GE115.out) | exact HB.out)⟩
          · rw [if_neg c10] at H
            exact absurd H (by simp)
        · rw [if_neg c9] at H
          have c9b0 : decide (x7_1 < (t102.length : Int)) = false := decide_eq_false c9
          clear c9
          simp only [Option.some.injEq, Prod.mk.injEq] at H
          obtain ⟨rfl, rfl, rfl⟩ := H
          obtain ⟨Ao38, co38, eo38⟩ := Kd.R_slice HO_4.out
          subst eo38
          have hnb39 := NB101_107.out
          have hnc39 := NB107_101.out
          have hcz40_0 : wr.cell? ⟨gb101, 0, none⟩ = some (.int .i64 x102000_1) := (blk_cell BK101.out 0).trans rfl
          have hcz40_1 : wr.cell? ⟨gb101, 1, none⟩ = some (.int .i64 x102001_1) := (blk_cell BK101.out 1).trans rfl
          have hfz40_0 := blk_frozen BK101.out 0
          have hfz40_1 := blk_frozen BK101.out 1
          go_wp2
          refine bodyPost_ret (results_tc rfl _ _ gb101 31 #[.int .i64 0, .int .i64 0] (0, 0) _ rfl (by (with_reducible repeat (first | refine blk_drewN ?_ _ | refine blk_drew ?_ | refine blk_alloc ?_ _)); refine blk_put (cs := #[.int .i64 0, .int .i64 x102001_1]) ?_ 1 _ rfl; (with_reducible repeat (first | refine blk_drewN ?_ _ | refine blk_drew ?_ | refine blk_alloc ?_ _)); refine blk_put (cs := #[.int .i64 x102000_1, .int .i64 x102001_1]) ?_ 0 _ rfl; (with_reducible repeat (first | refine blk_drewN ?_ _ | refine blk_drew ?_ | refine blk_alloc ?_ _)); exact BK101.out) Tryd.underlying31 rfl (by kernel_rfl)) rfl ?_
          exact ⟨_, by first | rfl | (simp [errW_none, errW_some] <;> rfl) | (simp [*, errW_none, errW_some] <;> rfl), by (with_reducible repeat (first | apply Kd.R_alloc | apply Kd.R_drewN | apply Kd.R_drew)); exact Kd.R_mono (Kd.R_far (p := ⟨gb101, 1, none⟩) (Kd.R_far (p := ⟨gb101, 0, none⟩) (Kd.R_types HO_6.out BK101.out (by decide)) (fun _ hk => hk.2) (.int .i64 0)) (fun _ hk => hk.2) (.int .i64 0)) (fun _ hk => trivial), by repeat (first | (with_reducible first | exact HB.out | apply below_alloc | apply pw_below_drewN | apply below_drew1 | refine below_set ?_ GE101.out | refine below_set ?_ GE107.out) | exact HB.out)⟩
  · rw [if_neg c3] at H
    have c3b0 : (t105 == 0) = false := beq_eq_false_iff_ne.mpr c3
    have c3b1 : (t105 != 0) = true := bne_iff_ne.mpr c3
    simp only [Option.some.injEq, Prod.mk.injEq] at H
    obtain ⟨rfl, rfl, rfl⟩ := H
    go_enter Tryd.func53, Tryd.ntmps53
    try go_wp2_with (first | ((with_reducible refine gate_dst (N := 3) rfl ?_); refine box_event ?hg (N := 3) ?hd (cs := #[.int .i64 0, .int .i64 0]) (t := 31) ?hr ?_; (case hd => rfl); (case hg => rfl); (case hr => first | (go_simp; done) | (go_simp; rfl)); intro gb101 hg w41 hbox hb; have n0_ := Aside0.mk (below_step (by repeat (first | (with_reducible first | exact HB.out | apply below_alloc | apply pw_below_drewN | apply below_drew1) | exact HB.out)) hb); have n1_ := Aside0.mk (hbox); have n2_ := Aside0.mk ((by rw [hg]; exact (below_size (by repeat (first | (with_reducible first | exact HB.out | apply below_alloc | apply pw_below_drewN | apply below_drew1) | exact HB.out))) : w.heap.size ≤ gb101)); have n3_ := Aside0.mk ((by rw [hg]; exact (below_size (by repeat (first | (with_reducible first | exact HB.out | apply below_alloc | apply pw_below_drewN | apply below_drew1) | exact HB.out))) : w.heap.size ≤ gb101)); clear HB; have HB := n0_; have BK101 := n1_; have GW101 := n2_; have GE101 := n3_; clear n0_ n1_ n2_ n3_; clear hb hbox hg) | ((with_reducible refine gate_callee (f := 41) rfl ?_); refine goesL_ (some 12) rfl rfl Tryd.func41 (by kernel_rfl) rfl #[.string a0] rfl (by (try simp only [List.map_toArray, List.map_cons, List.map_nil]); first | done | rfl | (simp only [List.length_drop, List.length_take]; rfl)) ?_; (with_reducible refine (secateurref04_Lines.calls a0 t102 t105 t106 _ A2.out).mono ?_); rintro e w42 ⟨v103, rfl, ho0, hb⟩; refine ⟨_, rfl, ?_⟩; have n0_ := Aside0.mk (Kd.R_lower ho0 (below_size (by repeat (first | (with_reducible first | exact HB.out | apply below_alloc | apply pw_below_drewN | apply below_drew1 | refine below_set ?_ GE101.out) | exact HB.out)))); have n1_ := Aside0.mk (blk_below (g := gb101) (o := .cells #[.int .i64 0, .int .i64 0] 31 (0, 0)) (by (with_reducible repeat (first | refine blk_drewN ?_ _ | refine blk_drew ?_ | refine blk_alloc ?_ _)); exact BK101.out) hb); have n2_ := Aside0.mk (below_step (by repeat (first | (with_reducible first | exact HB.out | apply below_alloc | apply pw_below_drewN | apply below_drew1 | refine below_set ?_ GE101.out) | exact HB.out)) hb); clear BK101; clear HB; have HO104 := n0_; have BK101 := n1_; have HB := n2_; clear n0_ n1_ n2_; (try clear hb); (try clear hb2); (try clear hk); (try clear hi); (try clear ho0)) | ((with_reducible refine gate_dst (N := 5) rfl ?_); refine box_event ?hg (N := 5) ?hd (cs := #[.int .i64 0, .int .i64 0]) (t := 31) ?hr ?_; (case hd => rfl); (case hg => rfl); (case hr => first | (go_simp; done) | (go_simp; rfl)); intro gb107 hg w43 hbox hb; have n0_ := Aside0.mk (Kd.R_below (by (with_reducible repeat (first | apply Kd.R_alloc | apply Kd.R_drewN | apply Kd.R_drew)); exact HO104.out) hb); have n1_ := Aside0.mk (blk_below (g := gb101) (o := .cells #[.int .i64 0, .int .i64 0] 31 (0, 0)) (by (with_reducible repeat (first | refine blk_drewN ?_ _ | refine blk_drew ?_ | refine blk_alloc ?_ _)); exact BK101.out) hb); have n2_ := Aside0.mk (below_step (by repeat (first | (with_reducible first | exact HB.out | apply below_alloc | apply pw_below_drewN | apply below_drew1 | refine below_set ?_ GE101.out) | exact HB.out)) hb); have n3_ := Aside0.mk (hbox); have n4_ := Aside0.mk ((by rw [hg]; exact (below_size (by repeat (first | (with_reducible first | exact HB.out | apply below_alloc | apply pw_below_drewN | apply below_drew1 | refine below_set ?_ GE101.out) | exact HB.out))) : w.heap.size ≤ gb107)); have n5_ := Aside0.mk ((by rw [hg]; exact (below_size (by repeat (first | (with_reducible first | exact HB.out | apply below_alloc | apply pw_below_drewN | apply below_drew1 | refine below_set ?_ GE101.out) | exact HB.out))) : w.heap.size ≤ gb107)); have n6_ := Aside0.mk ((by rw [hg]; exact Nat.ne_of_lt (blk_lt (g := gb101) (o := .cells #[.int .i64 0, .int .i64 0] 31 (0, 0)) (by (with_reducible repeat (first | refine blk_drewN ?_ _ | refine blk_drew ?_ | refine blk_alloc ?_ _)); exact BK101.out)) : gb101 ≠ gb107)); have n7_ := Aside0.mk ((by rw [hg]; exact Nat.ne_of_gt (blk_lt (g := gb101) (o := .cells #[.int .i64 0, .int .i64 0] 31 (0, 0)) (by (with_reducible repeat (first | refine blk_drewN ?_ _ | refine blk_drew ?_ | refine blk_alloc ?_ _)); exact BK101.out)) : gb107 ≠ gb101)); clear HO104; clear BK101; clear HB; have HO104 := n0_; have BK101 := n1_; have HB := n2_; have BK107 := n3_; have GW107 := n4_; have GE107 := n5_; have NB101_107 := n6_; have NB107_101 := n7_; clear n0_ n1_ n2_ n3_ n4_ n5_ n6_ n7_; clear hb hbox hg; have hnb44 := NB107_101.out; have hnc44 := NB101_107.out; have hcz45_0 : w43.cell? ⟨gb107, 0, none⟩ = some (.int .i64 0) := (blk_cell BK107.out 0).trans rfl; have hcz45_1 : w43.cell? ⟨gb107, 1, none⟩ = some (.int .i64 0) := (blk_cell BK107.out 1).trans rfl; have hfz45_0 := blk_frozen BK107.out 0; have hfz45_1 := blk_frozen BK107.out 1))
    have n0_ : Aside0 (Kd.R Kd.string 9 ((w43.setCell ⟨gb107, 0, none⟩ (.int .i64 t105)).setCell ⟨gb107, 1, none⟩ (.int .i64 t106)) w.heap.size (fun _ => True) v103 t102) := ⟨by (with_reducible repeat (first | apply Kd.R_alloc | apply Kd.R_drewN | apply Kd.R_drew)); exact Kd.R_mono (Kd.R_far (p := ⟨gb107, 1, none⟩) (Kd.R_far (p := ⟨gb107, 0, none⟩) (Kd.R_types HO104.out BK107.out (by decide)) (fun _ hk => hk.2) (.int .i64 t105)) (fun _ hk => hk.2) (.int .i64 t106)) (fun _ hk => trivial)⟩
    have n1_ : Aside0 (((w43.setCell ⟨gb107, 0, none⟩ (.int .i64 t105)).setCell ⟨gb107, 1, none⟩ (.int .i64 t106)).heap[gb101]? = some (.cells #[.int .i64 0, .int .i64 0] 31 (0, 0))) := ⟨by (with_reducible repeat (first | refine blk_drewN ?_ _ | refine blk_drew ?_ | refine blk_alloc ?_ _)); refine blk_far ?_ NB101_107.out _; (with_reducible repeat (first | refine blk_drewN ?_ _ | refine blk_drew ?_ | refine blk_alloc ?_ _)); refine blk_far ?_ NB101_107.out _; (with_reducible repeat (first | refine blk_drewN ?_ _ | refine blk_drew ?_ | refine blk_alloc ?_ _)); exact BK101.out⟩
    have n2_ : Aside0 (((w43.setCell ⟨gb107, 0, none⟩ (.int .i64 t105)).setCell ⟨gb107, 1, none⟩ (.int .i64 t106)).heap[gb107]? = some (.cells #[.int .i64 t105, .int .i64 t106] 31 (0, 0))) := ⟨by (with_reducible repeat (first | refine blk_drewN ?_ _ | refine blk_drew ?_ | refine blk_alloc ?_ _)); refine blk_put (cs := #[.int .i64 t105, .int .i64 0]) ?_ 1 _ rfl; (with_reducible repeat (first | refine blk_drewN ?_ _ | refine blk_drew ?_ | refine blk_alloc ?_ _)); refine blk_put (cs := #[.int .i64 0, .int .i64 0]) ?_ 0 _ rfl; (with_reducible repeat (first | refine blk_drewN ?_ _ | refine blk_drew ?_ | refine blk_alloc ?_ _)); exact BK107.out⟩
    have n3_ : Aside0 (Below w.heap.size w ((w43.setCell ⟨gb107, 0, none⟩ (.int .i64 t105)).setCell ⟨gb107, 1, none⟩ (.int .i64 t106))) := ⟨by repeat (first | (with_reducible first | exact HB.out | apply below_alloc | apply pw_below_drewN | apply below_drew1 | refine below_set ?_ GE101.out | refine below_set ?_ GE107.out) | exact HB.out)⟩
    (try clear HO104)
    (try clear BK101)
    (try clear BK107)
    (try clear HB)
    generalize ((w43.setCell ⟨gb107, 0, none⟩ (.int .i64 t105)).setCell ⟨gb107, 1, none⟩ (.int .i64 t106)) = w46 at n0_ n1_ n2_ n3_ ⊢
    have HO104 := n0_
    have BK101 := n1_
    have BK107 := n2_
    have HB := n3_
    clear n0_ n1_ n2_ n3_
    have n0_ := Aside0.mk (Kd.R_drew HO104.out)
    have n1_ := Aside0.mk (blk_drew BK101.out)
    have n2_ := Aside0.mk (blk_drew BK107.out)
    have n3_ := Aside0.mk (below_drew1 HB.out)
    clear HO104
    clear BK101
    clear BK107
    clear HB
    have HO104 := n0_
    have BK101 := n1_
    have BK107 := n2_
    have HB := n3_
    clear n0_ n1_ n2_ n3_
    refine start_ (n := 3) (S := fun w' => w'.cell? ⟨gb107, 0, none⟩ = some (.int .i64 t105) ∧ w'.cell? ⟨gb107, 1, none⟩ = some (.int .i64 t106)) (ds := []) #[false, false, false] (by kernel_rfl) rfl rfl ⟨(blk_cell BK107.out 0).trans rfl, (blk_cell BK107.out 1).trans rfl⟩ (fun hHeld => ?_)
    generalize w46.drew = w47 at HO104 BK101 BK107 HB hHeld ⊢
    refine pure_ (i := 1) (N := some 2) (v := ?_) (a' := ?_) #[false, true, false] rfl rfl (by kernel_rfl) (fun _ _ _ h => h) (Or.inl ⟨by rfl, ?_⟩) ?_ ?_
    rotate_left
    · intro w'
      go_simp
      with_reducible rfl
    rotate_left
    · simp only [Act.put, List.setIfInBounds_toArray, List.set_cons_zero, List.set_cons_succ, i64_w, i32_w]
      rfl
    refine take_ (i := 0) (N := some 18) (v := ?_) (a' := ?_) #[true, true, false] rfl rfl (by kernel_rfl) (fun _ _ _ h => h) (Or.inl ⟨by rfl, ?_⟩) hHeld ?_ ?_
    rotate_left
    · rintro w' ⟨s0, s1⟩
      go_simp
      with_reducible rfl
    rotate_left
    · simp only [Act.put, List.setIfInBounds_toArray, List.set_cons_zero, List.set_cons_succ, i64_w, i32_w]
      rfl
    refine one_ (i := 2) (N := none) #[true, true, true] rfl rfl (by kernel_rfl) (by decide) (fun K hK => ?_)
    have hs48 : w47.cell? ⟨gb101, 0, none⟩ = some (.int .i64 0) := (blk_cell BK101.out 0).trans rfl
    have hfs48 := blk_frozen BK101.out 0
    have hns48_1 := NB107_101.out
    have hms48_1 := NB101_107.out
    have hs49 : w47.cell? ⟨gb101, 1, none⟩ = some (.int .i64 0) := (blk_cell BK101.out 1).trans rfl
    have hfs49 := blk_frozen BK101.out 1
    have hns49_1 := NB107_101.out
    have hms49_1 := NB101_107.out
    refine skip_ (w1 := ?_) (by rfl) rfl ?_ ?_
    rotate_left
    · go_simp
      rfl
    refine hK.out _ _ ⟨((cell_far (p := ⟨gb101, _, none⟩) NB107_101.out _).trans (((cell_far (p := ⟨gb101, _, none⟩) NB107_101.out _).trans (hHeld.1)))), ((cell_far (p := ⟨gb101, _, none⟩) NB107_101.out _).trans (((cell_far (p := ⟨gb101, _, none⟩) NB107_101.out _).trans (hHeld.2))))⟩ (fun hHeld => ?_)
    clear hK K
    refine done_ (by kernel_rfl) ?_
    try go_wp2
    refine bodyPost_ret (results_tc rfl _ _ gb101 31 #[.int .i64 t105, .int .i64 t106] (0, 0) _ rfl (by (with_reducible repeat (first | refine blk_drewN ?_ _ | refine blk_drew ?_ | refine blk_alloc ?_ _)); refine blk_put (cs := #[.int .i64 t105, .int .i64 0]) ?_ 1 _ rfl; (with_reducible repeat (first | refine blk_drewN ?_ _ | refine blk_drew ?_ | refine blk_alloc ?_ _)); refine blk_put (cs := #[.int .i64 0, .int .i64 0]) ?_ 0 _ rfl; (with_reducible repeat (first | refine blk_drewN ?_ _ | refine blk_drew ?_ | refine blk_alloc ?_ _)); exact BK101.out) Tryd.underlying31 rfl (by kernel_rfl)) rfl ?_
    exact ⟨_, by first | rfl | (simp [errW_none, errW_some] <;> rfl) | (simp [*, errW_none, errW_some] <;> rfl), by first | exact Kd.R_nil _ _ _ _ _ | exact Kd.N_nil _ _ _ _ _ | exact Kd.V_nil _ _ _ _ _ | exact Kd.Q_nil _ _ _ _ _ | exact Kd.S_nil _ _ _ _ _, by repeat (first | (with_reducible first | exact HB.out | apply below_alloc | apply pw_below_drewN | apply below_drew1 | refine below_set ?_ GE101.out | refine below_set ?_ GE107.out) | exact HB.out)⟩
def secateurref22_Print.l0 : Nat → List (S66) → ByteArray → Int → Option (ByteArray × Int)
  | 0, _, _, _ => none
  | k + 1, x0, x4, x5 => if x5 < (x0.length : Int) then (if 0 ≤ x5 then ((secateurref22_Right.f ((rd_T66 x0 x5).f0) ((rd_T66 x0 x5).f1) ((rd_T66 x0 x5).f2) ((rd_T66 x0 x5).f3) ((rd_T66 x0 x5).f4)).bind fun t120 => (if t120 = true then ((secateurref22_line.f ((rd_T66 x0 x5).f0) ((rd_T66 x0 x5).f1) ((rd_T66 x0 x5).f2) ((rd_T66 x0 x5).f3) ((rd_T66 x0 x5).f4)).bind fun t122 => (if t122.size + 1 ≤ 9223372036854775807 then (if x4.size + (t122 ++ (⟨#[10]⟩ : ByteArray)).size ≤ 9223372036854775807 then (secateurref22_Print.l0 k x0 (x4 ++ (t122 ++ (⟨#[10]⟩ : ByteArray))) (wrap64 (x5 + 1))) else (none)) else (none))) else (some ((⟨#[]⟩ : ByteArray), 10)))) else (none)) else (some (x4, 0))
def secateurref22_Print.f (k : Nat) (l0 : List (S66)) : Option (ByteArray × Int) := if (l0.length : Int) > 64 then (some ((⟨#[]⟩ : ByteArray), 3)) else (secateurref22_Print.l0 k l0 (⟨#[]⟩ : ByteArray) 0)
theorem secateurref22_Print.mono_l : ∀ k, (∀ y0 y1 y2, LeO (secateurref22_Print.l0 k y0 y1 y2) (secateurref22_Print.l0 (k + 1) y0 y1 y2))
  | 0 => fun _ _ _ r h => by simp [secateurref22_Print.l0] at h
  | k + 1 => by
    have ih0 := secateurref22_Print.mono_l k
    · intro y0 y1 y2
      unfold secateurref22_Print.l0
      repeat' first
      | (with_reducible exact ih0 _ _ _)
      | (with_reducible exact LeO.refl _)
      | (with_reducible exact LeO.none _)
      | (with_reducible refine LeO.ite ?_ ?_)
      | (with_reducible refine LeO.bind ?_ (fun _ => ?_))
      | exact ih0 _ _ _
      | exact LeO.none _
      | refine LeO.ite ?_ ?_
      | refine LeO.bind ?_ (fun _ => ?_)
theorem secateurref22_Print.mono : ∀ a0 k, LeO (secateurref22_Print.f k a0) (secateurref22_Print.f (k + 1) a0) := by
  intro a0 k
  have ih0 := secateurref22_Print.mono_l k
  unfold secateurref22_Print.f
  repeat' first
      | (with_reducible exact ih0 _ _ _)
      | (with_reducible exact LeO.refl _)
      | (with_reducible exact LeO.none _)
      | (with_reducible refine LeO.ite ?_ ?_)
      | (with_reducible refine LeO.bind ?_ (fun _ => ?_))
      | exact ih0 _ _ _
      | exact LeO.none _
      | refine LeO.ite ?_ ?_
      | refine LeO.bind ?_ (fun _ => ?_)
set_option maxHeartbeats 8000000 in
set_option maxRecDepth 100000 in
theorem secateurref22_Print.calls (k : Nat) (A0 : Option Addr) (c0 : Nat) (l0 : List (S66)) (r1 : ByteArray) (r2 : Int) (w : World) (hr0 : Kd.C k66 w A0 l0.length l0) (hc0 : l0.length ≤ c0) (h : secateurref22_Print.f k l0 = some (r1, r2)) :
    Calls Tryd.prog 55 #[.slice A0 l0.length c0] w fun e w' => e = .returned (.tuple #[.string r1, .int .i64 r2]) ∧ Below w.heap.size w w' := by
  have hu66 := Tryd.underlying66
  have HR0 := Aside0.mk hr0
  have HC0 := Aside0.mk hc0
  clear hr0 hc0
  have HB := Aside0.mk (Below.refl w.heap.size w)
  have H : (if (l0.length : Int) > 64 then (some ((⟨#[]⟩ : ByteArray), 3)) else (secateurref22_Print.l0 k l0 (⟨#[]⟩ : ByteArray) 0)) = some (r1, r2) := h
  clear h
  by_cases c2 : (l0.length : Int) > 64
  · rw [if_pos c2] at H
    have c2b0 : decide (64 < (l0.length : Int)) = true := decide_eq_true c2
    have c2b1 : decide (64 < l0.length) = true := decide_eq_true (by omega)
    clear c2
    simp only [Option.some.injEq, Prod.mk.injEq] at H
    obtain ⟨rfl, rfl⟩ := H
    go_enter Tryd.func55, Tryd.ntmps55
    go_wp2
    go_ret2
    exact ⟨by first | rfl | (simp [errW_none, errW_some] <;> rfl) | (simp [*, errW_none, errW_some] <;> rfl), by repeat (first | (with_reducible first | exact HB.out | apply below_alloc | apply pw_below_drewN | apply below_drew1) | exact HB.out)⟩
  · rw [if_neg c2] at H
    have c2b0 : decide (64 < (l0.length : Int)) = false := decide_eq_false c2
    have c2b1 : decide (64 < l0.length) = false := decide_eq_false (by omega)
    clear c2
    have H' := Aside0.mk H
    clear H
    go_enter Tryd.func55, Tryd.ntmps55
    go_wp2
    go_loopg [4, 5] k (fun kq v4 v5 w' => ∃ (x4_1 : ByteArray) (x5_1 : Int), v4 = .string x4_1 ∧ v5 = .int .i64 x5_1 ∧ Aside0 (secateurref22_Print.l0 kq l0 x4_1 x5_1 = some (r1, r2)) ∧ Aside0 (kq ≤ k) ∧ Aside0 (Below w.heap.size w w'))
    case atStart => exact ⟨((⟨#[]⟩ : ByteArray)), (0), (by first | rfl | (simp; done) | (simp [*]; done)), (by first | rfl | (simp; done) | (simp [*]; done)), H', ⟨Nat.le_refl _⟩, ⟨by repeat (first | (with_reducible first | exact HB.out | apply below_alloc | apply pw_below_drewN | apply below_drew1) | exact HB.out)⟩⟩
    case round =>
      clear H'
      try clear c2
      try clear c2b0
      try clear c2b1
      try clear p2
      obtain ⟨x4_1, x5_1, rfl, rfl, HA, HK1, HB⟩ := hrel
      cases gk with
      | zero => exact absurd HA.out (by simp [secateurref22_Print.l0])
      | succ k1 =>
        have H := HA.out
        clear HA
        simp only [secateurref22_Print.l0] at H
        by_cases c3 : x5_1 < (l0.length : Int)
        · rw [if_pos c3] at H
          have c3b0 : decide (x5_1 < (l0.length : Int)) = true := decide_eq_true c3
          clear c3
          by_cases c4 : 0 ≤ x5_1
          · rw [if_pos c4] at H
            have c4b0 : decide (0 ≤ x5_1) = true := decide_eq_true c4
            clear c4
            replace H := Option.bind_eq_some_iff.mp H
            obtain ⟨t120, A50, H⟩ := H
            replace H : (if t120 = true then ((secateurref22_line.f ((rd_T66 l0 x5_1).f0) ((rd_T66 l0 x5_1).f1) ((rd_T66 l0 x5_1).f2) ((rd_T66 l0 x5_1).f3) ((rd_T66 l0 x5_1).f4)).bind fun t122 => (if t122.size + 1 ≤ 9223372036854775807 then (if x4_1.size + (t122 ++ (⟨#[10]⟩ : ByteArray)).size ≤ 9223372036854775807 then (secateurref22_Print.l0 k1 l0 (x4_1 ++ (t122 ++ (⟨#[10]⟩ : ByteArray))) (wrap64 (x5_1 + 1))) else (none)) else (none))) else (some ((⟨#[]⟩ : ByteArray), 10))) = some (r1, r2) := H
            have A5 := Aside0.mk A50
            clear A50
            by_cases c6 : t120 = true
            · subst c6
              have H1 : ((secateurref22_line.f ((rd_T66 l0 x5_1).f0) ((rd_T66 l0 x5_1).f1) ((rd_T66 l0 x5_1).f2) ((rd_T66 l0 x5_1).f3) ((rd_T66 l0 x5_1).f4)).bind fun t122 => (if t122.size + 1 ≤ 9223372036854775807 then (if x4_1.size + (t122 ++ (⟨#[10]⟩ : ByteArray)).size ≤ 9223372036854775807 then (secateurref22_Print.l0 k1 l0 (x4_1 ++ (t122 ++ (⟨#[10]⟩ : ByteArray))) (wrap64 (x5_1 + 1))) else (none)) else (none))) = some (r1, r2) := by rw [if_pos rfl] at H; exact H
              clear H
              have H := H1
              clear H1
              replace H := Option.bind_eq_some_iff.mp H
              obtain ⟨t122, A70, H⟩ := H
              replace H : (if t122.size + 1 ≤ 9223372036854775807 then (if x4_1.size + (t122 ++ (⟨#[10]⟩ : ByteArray)).size ≤ 9223372036854775807 then (secateurref22_Print.l0 k1 l0 (x4_1 ++ (t122 ++ (⟨#[10]⟩ : ByteArray))) (wrap64 (x5_1 + 1))) else (none)) else (none)) = some (r1, r2) := H
              have A7 := Aside0.mk A70
              clear A70
              by_cases c8 : t122.size + 1 ≤ 9223372036854775807
              · rw [if_pos c8] at H
                have c8b0 := eq_true c8
                have c8b1 : decide (t122.size + 1 ≤ 9223372036854775807) = true := decide_eq_true c8
                try have c8b2 : (9223372036854775807 < t122.size + 1) = False := eq_false (Nat.not_lt.2 c8)
                by_cases c9 : x4_1.size + (t122 ++ (⟨#[10]⟩ : ByteArray)).size ≤ 9223372036854775807
                · rw [if_pos c9] at H
                  have c9b0 := eq_true c9
                  have c9b1 : decide (x4_1.size + (t122 ++ (⟨#[10]⟩ : ByteArray)).size ≤ 9223372036854775807) = true := decide_eq_true c9
                  try have c9b2 : (9223372036854775807 < x4_1.size + (t122 ++ (⟨#[10]⟩ : ByteArray)).size) = False := eq_false (Nat.not_lt.2 c9)
                  try have c9b3 : (9223372036854775807 < x4_1.size + (t122.size + 1)) = False := eq_false (Nat.not_lt.2 (by have h_ := c9; simp only [ByteArray.size_append] at h_; exact h_))
                  have H' := Aside0.mk H
                  clear H
                  have p119 : 0 ≤ (x5_1 : Int) := of_decide_eq_true (by first | (with_reducible assumption) | assumption)
                  have q119 : x5_1 < (l0.length : Int) := of_decide_eq_true (by first | (with_reducible assumption) | assumption)
                  obtain ⟨ad119, e119, hx119_0, hx119_1, hx119_2, hx119_3, hx119_4⟩ := at_T66 HR0.out x5_1 p119 q119
                  cases e119
                  replace hx119_0 := (HB.out.cell (World.block_lt_of_cell? w _ hx119_0)).trans hx119_0
                  replace hx119_1 := (HB.out.cell (World.block_lt_of_cell? w _ hx119_1)).trans hx119_1
                  replace hx119_2 := (HB.out.cell (World.block_lt_of_cell? w _ hx119_2)).trans hx119_2
                  replace hx119_3 := (HB.out.cell (World.block_lt_of_cell? w _ hx119_3)).trans hx119_3
                  replace hx119_4 := (HB.out.cell (World.block_lt_of_cell? w _ hx119_4)).trans hx119_4
                  replace p119 := eq_true p119
                  replace q119 := eq_true q119
                  go_wp2_with (first | ((with_reducible refine gate_callee (f := 51) rfl ?_); refine goesL_ (some 19) rfl rfl Tryd.func51 (by kernel_rfl) rfl #[.agg #[.bool ((rd_T66 l0 x5_1).f0), .bool ((rd_T66 l0 x5_1).f1), .string ((rd_T66 l0 x5_1).f2), .string ((rd_T66 l0 x5_1).f3), .string ((rd_T66 l0 x5_1).f4)]] rfl (by (try simp only [List.map_toArray, List.map_cons, List.map_nil]); first | done | rfl | (simp only [List.length_drop, List.length_take]; rfl)) ?_; (with_reducible refine (secateurref22_Right.calls ((rd_T66 l0 x5_1).f0) ((rd_T66 l0 x5_1).f1) ((rd_T66 l0 x5_1).f2) ((rd_T66 l0 x5_1).f3) ((rd_T66 l0 x5_1).f4) true _ A5.out).mono ?_); rintro e w10 ⟨rfl, hb⟩; refine ⟨_, rfl, ?_⟩; have n0_ := Aside0.mk (below_step (by repeat (first | (with_reducible first | exact HB.out | apply below_alloc | apply pw_below_drewN | apply below_drew1) | exact HB.out)) hb); clear HB; have HB := n0_; clear n0_; (try clear hb); (try clear hb2); (try clear hk); (try clear hi); have p121 : 0 ≤ (x5_1 : Int) := of_decide_eq_true (by first | (with_reducible assumption) | assumption); have q121 : x5_1 < (l0.length : Int) := of_decide_eq_true (by first | (with_reducible assumption) | assumption); obtain ⟨ad121, e121, hx121_0, hx121_1, hx121_2, hx121_3, hx121_4⟩ := at_T66 HR0.out x5_1 p121 q121; obtain rfl : ad119 = ad121 := (by injection e121); replace hx121_0 := (HB.out.cell (World.block_lt_of_cell? w _ hx121_0)).trans hx121_0; replace hx121_1 := (HB.out.cell (World.block_lt_of_cell? w _ hx121_1)).trans hx121_1; replace hx121_2 := (HB.out.cell (World.block_lt_of_cell? w _ hx121_2)).trans hx121_2; replace hx121_3 := (HB.out.cell (World.block_lt_of_cell? w _ hx121_3)).trans hx121_3; replace hx121_4 := (HB.out.cell (World.block_lt_of_cell? w _ hx121_4)).trans hx121_4; replace p121 := eq_true p121; replace q121 := eq_true q121) | ((with_reducible refine gate_callee (f := 109) rfl ?_); refine goesL_ (some 26) rfl rfl Tryd.func109 (by kernel_rfl) rfl #[.agg #[.bool ((rd_T66 l0 x5_1).f0), .bool ((rd_T66 l0 x5_1).f1), .string ((rd_T66 l0 x5_1).f2), .string ((rd_T66 l0 x5_1).f3), .string ((rd_T66 l0 x5_1).f4)]] rfl (by (try simp only [List.map_toArray, List.map_cons, List.map_nil]); first | done | rfl | (simp only [List.length_drop, List.length_take]; rfl)) ?_; (with_reducible refine (secateurref22_line.calls ((rd_T66 l0 x5_1).f0) ((rd_T66 l0 x5_1).f1) ((rd_T66 l0 x5_1).f2) ((rd_T66 l0 x5_1).f3) ((rd_T66 l0 x5_1).f4) t122 _ A7.out).mono ?_); rintro e w11 ⟨rfl, hb⟩; refine ⟨_, rfl, ?_⟩; have n0_ := Aside0.mk (below_step (by repeat (first | (with_reducible first | exact HB.out | apply below_alloc | apply pw_below_drewN | apply below_drew1) | exact HB.out)) hb); clear HB; have HB := n0_; clear n0_; (try clear hb); (try clear hb2); (try clear hk); (try clear hi)))
                  go_roundg k1
                  case measure => have := HK1.out; omega
                  case rel => exact ⟨(x4_1 ++ (t122 ++ (⟨#[10]⟩ : ByteArray))), (wrap64 (x5_1 + 1)), (by first | rfl | (simp; done) | (simp [*]; done)), (by first | rfl | (simp; done) | (simp [*]; done)), H', ⟨by have := HK1.out; omega⟩, ⟨by repeat (first | (with_reducible first | exact HB.out | apply below_alloc | apply pw_below_drewN | apply below_drew1) | exact HB.out)⟩⟩
                · rw [if_neg c9] at H
                  exact absurd H (by simp)
              · rw [if_neg c8] at H
                exact absurd H (by simp)
            · replace c6 := Bool.eq_false_iff.mpr c6
              subst c6
              have H1 : (some ((⟨#[]⟩ : ByteArray), 10)) = some (r1, r2) := by rw [if_neg (show ¬ (false = true) by decide)] at H; exact H
              clear H
              have H := H1
              clear H1
              simp only [Option.some.injEq, Prod.mk.injEq] at H
              obtain ⟨rfl, rfl⟩ := H
              have p119 : 0 ≤ (x5_1 : Int) := of_decide_eq_true (by first | (with_reducible assumption) | assumption)
              have q119 : x5_1 < (l0.length : Int) := of_decide_eq_true (by first | (with_reducible assumption) | assumption)
              obtain ⟨ad119, e119, hx119_0, hx119_1, hx119_2, hx119_3, hx119_4⟩ := at_T66 HR0.out x5_1 p119 q119
              cases e119
              replace hx119_0 := (HB.out.cell (World.block_lt_of_cell? w _ hx119_0)).trans hx119_0
              replace hx119_1 := (HB.out.cell (World.block_lt_of_cell? w _ hx119_1)).trans hx119_1
              replace hx119_2 := (HB.out.cell (World.block_lt_of_cell? w _ hx119_2)).trans hx119_2
              replace hx119_3 := (HB.out.cell (World.block_lt_of_cell? w _ hx119_3)).trans hx119_3
              replace hx119_4 := (HB.out.cell (World.block_lt_of_cell? w _ hx119_4)).trans hx119_4
              replace p119 := eq_true p119
              replace q119 := eq_true q119
              go_wp2_with (first | ((with_reducible refine gate_callee (f := 51) rfl ?_); refine goesL_ (some 19) rfl rfl Tryd.func51 (by kernel_rfl) rfl #[.agg #[.bool ((rd_T66 l0 x5_1).f0), .bool ((rd_T66 l0 x5_1).f1), .string ((rd_T66 l0 x5_1).f2), .string ((rd_T66 l0 x5_1).f3), .string ((rd_T66 l0 x5_1).f4)]] rfl (by (try simp only [List.map_toArray, List.map_cons, List.map_nil]); first | done | rfl | (simp only [List.length_drop, List.length_take]; rfl)) ?_; (with_reducible refine (secateurref22_Right.calls ((rd_T66 l0 x5_1).f0) ((rd_T66 l0 x5_1).f1) ((rd_T66 l0 x5_1).f2) ((rd_T66 l0 x5_1).f3) ((rd_T66 l0 x5_1).f4) false _ A5.out).mono ?_); rintro e w12 ⟨rfl, hb⟩; refine ⟨_, rfl, ?_⟩; have n0_ := Aside0.mk (below_step (by repeat (first | (with_reducible first | exact HB.out | apply below_alloc | apply pw_below_drewN | apply below_drew1) | exact HB.out)) hb); clear HB; have HB := n0_; clear n0_; (try clear hb); (try clear hb2); (try clear hk); (try clear hi)))
              go_ret2
              exact ⟨by first | rfl | (simp [errW_none, errW_some] <;> rfl) | (simp [*, errW_none, errW_some] <;> rfl), by repeat (first | (with_reducible first | exact HB.out | apply below_alloc | apply pw_below_drewN | apply below_drew1) | exact HB.out)⟩
          · rw [if_neg c4] at H
            exact absurd H (by simp)
        · rw [if_neg c3] at H
          have c3b0 : decide (x5_1 < (l0.length : Int)) = false := decide_eq_false c3
          clear c3
          simp only [Option.some.injEq, Prod.mk.injEq] at H
          obtain ⟨rfl, rfl⟩ := H
          go_wp2
          go_ret2
          exact ⟨by first | rfl | (simp [errW_none, errW_some] <;> rfl) | (simp [*, errW_none, errW_some] <;> rfl), by repeat (first | (with_reducible first | exact HB.out | apply below_alloc | apply pw_below_drewN | apply below_drew1) | exact HB.out)⟩
end Go.Proofs.YtmlbfepibfobaaaDoor.PRulesTexts
end

section
namespace Go.Proofs.YtmlbfepibfobaaaDoor.PRulesTexts
open Go.RowKit Go.Proofs.YtmlbfepibfobaaaDoorW.PrintWords Go.Proofs.YtmlbfepibfobaaaDoorW.PrintLast Go.Proofs.YtmlbfepibfobaaaDoorW.PrintMore Go.Proofs.YtmlbfepibfobaaaDoor.Hand
attribute [local go_sem] max2_int min2_int max_two min_two max_three min_three max_four min_four   -- for this text's walks alone
set_option linter.unusedVariables false
set_option linter.unusedSimpArgs false
attribute [local go_sem high] eqA31
mutual
def secateurlaw22_RulesTexts.j0 : Nat → ByteArray → List (S66) → Bool → Option (Bool)
  | 0, _, _, _ => none
  | k + 1, x0, x1, x22 => if x22 = true then ((secateurlaw22_live.f).bind fun t123 => (some t123)) else (secateurlaw22_RulesTexts.l0 k x0 x1 ([] : List (S66)) 0)
def secateurlaw22_RulesTexts.l0 : Nat → ByteArray → List (S66) → List (S66) → Int → Option (Bool)
  | 0, _, _, _, _ => none
  | k + 1, x0, x1, x5, x6 => if x6 < (x1.length : Int) then (if 0 ≤ x6 then ((secateurlaw22_short.f ((rd_T66 x1 x6).f0) ((rd_T66 x1 x6).f1) ((rd_T66 x1 x6).f2) ((rd_T66 x1 x6).f3) ((rd_T66 x1 x6).f4)).bind fun bt125 => (if x5.length < 2513169434916 then ((some (x5 ++ [(⟨bt125.1, bt125.2.1, bt125.2.2.1, bt125.2.2.2.1, bt125.2.2.2.2⟩ : S66)] : List (S66))).bind fun y130 => (if x6 < (y130.length : Int) then ((rules_Right.f ((rd_T66 y130 x6).f0) ((rd_T66 y130 x6).f1) ((rd_T66 y130 x6).f2) ((rd_T66 y130 x6).f3) ((rd_T66 y130 x6).f4)).bind fun t134 => ((secateurref22_Right.f ((rd_T66 y130 x6).f0) ((rd_T66 y130 x6).f1) ((rd_T66 y130 x6).f2) ((rd_T66 y130 x6).f3) ((rd_T66 y130 x6).f4)).bind fun t136 => (if (t134 != t136) = true then (some false) else (secateurlaw22_RulesTexts.l0 k x0 x1 y130 (wrap64 (x6 + 1)))))) else (none))) else (none))) else (none)) else ((rules_Parse.f x0).bind fun bt137 => ((secateurref22_Parse.f k x0).bind fun bt143 => ((rules_Print.f x5).bind fun bt149 => ((secateurref22_Print.f k x5).bind fun bt151 => ((secateurlaw22_live.f).bind fun t153 => (if t153 = true then (if (bt137.2.1 == bt143.2.1 && (bt137.2.2 == bt143.2.2)) = true then ((secateurref22_Same.f bt137.1 bt143.1).bind fun t154 => (if t154 = true then (if bt149.1.toList = bt151.1.toList then (some (bt149.2 == bt151.2)) else (some false)) else (some false))) else (some false)) else (some false)))))))
end
def secateurlaw22_RulesTexts.f (k : Nat) (a0 : ByteArray) (l1 : List (S66)) : Option (Bool) := if (a0.size : Int) > 9000 then (secateurlaw22_RulesTexts.j0 k a0 l1 true) else (secateurlaw22_RulesTexts.j0 k a0 l1 (decide ((l1.length : Int) > 80)))
theorem secateurlaw22_RulesTexts.mono_l : ∀ k, (∀ y0 y1 y2, LeO (secateurlaw22_RulesTexts.j0 k y0 y1 y2) (secateurlaw22_RulesTexts.j0 (k + 1) y0 y1 y2)) ∧ (∀ y0 y1 y2 y3, LeO (secateurlaw22_RulesTexts.l0 k y0 y1 y2 y3) (secateurlaw22_RulesTexts.l0 (k + 1) y0 y1 y2 y3))
  | 0 => ⟨fun _ _ _ r h => by simp [secateurlaw22_RulesTexts.j0] at h, fun _ _ _ _ r h => by simp [secateurlaw22_RulesTexts.l0] at h⟩
  | k + 1 => by
    obtain ⟨ih0, ih1⟩ := secateurlaw22_RulesTexts.mono_l k
    refine ⟨?_, ?_⟩
    · intro y0 y1 y2
      unfold secateurlaw22_RulesTexts.j0
      repeat' first
      | (with_reducible exact ih0 _ _ _)
      | (with_reducible exact ih1 _ _ _ _)
      | (with_reducible exact secateurref22_Parse.mono _ _)
      | (with_reducible exact secateurref22_Print.mono _ _)
      | (with_reducible exact LeO.refl _)
      | (with_reducible exact LeO.none _)
      | (with_reducible refine LeO.ite ?_ ?_)
      | (with_reducible refine LeO.bind ?_ (fun _ => ?_))
      | exact ih0 _ _ _
      | exact ih1 _ _ _ _
      | exact secateurref22_Parse.mono _ _
      | exact secateurref22_Print.mono _ _
      | exact LeO.none _
      | refine LeO.ite ?_ ?_
      | refine LeO.bind ?_ (fun _ => ?_)
    · intro y0 y1 y2 y3
      unfold secateurlaw22_RulesTexts.l0
      repeat' first
      | (with_reducible exact ih0 _ _ _)
      | (with_reducible exact ih1 _ _ _ _)
      | (with_reducible exact secateurref22_Parse.mono _ _)
      | (with_reducible exact secateurref22_Print.mono _ _)
      | (with_reducible exact LeO.refl _)
      | (with_reducible exact LeO.none _)
      | (with_reducible refine LeO.ite ?_ ?_)
      | (with_reducible refine LeO.bind ?_ (fun _ => ?_))
      | exact ih0 _ _ _
      | exact ih1 _ _ _ _
      | exact secateurref22_Parse.mono _ _
      | exact secateurref22_Print.mono _ _
      | exact LeO.none _
      | refine LeO.ite ?_ ?_
      | refine LeO.bind ?_ (fun _ => ?_)
theorem secateurlaw22_RulesTexts.mono : ∀ a0 a1 k, LeO (secateurlaw22_RulesTexts.f k a0 a1) (secateurlaw22_RulesTexts.f (k + 1) a0 a1) := by
  intro a0 a1 k
  obtain ⟨ih0, ih1⟩ := secateurlaw22_RulesTexts.mono_l k
  unfold secateurlaw22_RulesTexts.f
  repeat' first
      | (with_reducible exact ih0 _ _ _)
      | (with_reducible exact ih1 _ _ _ _)
      | (with_reducible exact secateurref22_Parse.mono _ _)
      | (with_reducible exact secateurref22_Print.mono _ _)
      | (with_reducible exact LeO.refl _)
      | (with_reducible exact LeO.none _)
      | (with_reducible refine LeO.ite ?_ ?_)
      | (with_reducible refine LeO.bind ?_ (fun _ => ?_))
      | exact ih0 _ _ _
      | exact ih1 _ _ _ _
      | exact secateurref22_Parse.mono _ _
      | exact secateurref22_Print.mono _ _
      | exact LeO.none _
      | refine LeO.ite ?_ ?_
      | refine LeO.bind ?_ (fun _ => ?_)
def secateurlaw22_RulesTexts.T8 : Bool × List (List Nat × List Nat) := (true, [([], []), ([], []), ([0, 1], [0, 1]), ([2], [2]), ([3], [3]), ([], []), ([], []), ([5, 6], [5, 6]), ([7], [7]), ([8, 4], [8]), ([4, 9], [4, 9])])
def secateurlaw22_RulesTexts.B8 : List Nat := [0, 0, 3, 7, 15, 0, 0, 96, 224, 511, 1023]
theorem secateurlaw22_RulesTexts.tab8 : rtab .any (opsOf Tryd.f11 8) = secateurlaw22_RulesTexts.T8 := by kernel_rfl
theorem secateurlaw22_RulesTexts.bits8 : waitsOk secateurlaw22_RulesTexts.T8.2 secateurlaw22_RulesTexts.B8 = true := by kernel_rfl
set_option maxHeartbeats 8000000 in
set_option maxRecDepth 100000 in
theorem secateurlaw22_RulesTexts.calls (k : Nat) (a0 : ByteArray) (A1 : Option Addr) (c1 : Nat) (l1 : List (S66)) (r : Bool) (w : World) (hr1 : Kd.C k66 w A1 l1.length l1) (hc1 : l1.length ≤ c1) (hGMaxL : MaxL w) (h : secateurlaw22_RulesTexts.f k a0 l1 = some r) (hr : r = true) :
    Calls Tryd.prog 11 #[.string a0, .slice A1 l1.length c1] w fun e w' => e = .returned (.bool r) ∧ Below w.heap.size w w' := by
  have hu66 := Tryd.underlying66
  have hu31 := Tryd.underlying31
  have HGMaxL := Aside0.mk hGMaxL
  clear hGMaxL
  have HR1 := Aside0.mk hr1
  have HC1 := Aside0.mk hc1
  clear hr1 hc1
  have HRT := Aside0.mk hr
  clear hr
  have HB := Aside0.mk (Below.refl w.heap.size w)
  have H : (if (a0.size : Int) > 9000 then (secateurlaw22_RulesTexts.j0 k a0 l1 true) else (secateurlaw22_RulesTexts.j0 k a0 l1 (decide ((l1.length : Int) > 80)))) = some r := h
  clear h
  have HC3 := Aside0.mk H
  clear H
  go_enter Tryd.func11, Tryd.ntmps11
  go_upto_region 1 with (fail)
  go_cut [22] (fun v22 wc => ∃ (kq : Nat) (x22_2 : Bool), v22 = .bool x22_2 ∧ Aside0 (secateurlaw22_RulesTexts.j0 kq a0 l1 x22_2 = some r) ∧ Aside0 (kq ≤ k) ∧ Aside0 (Below w.heap.size w wc))
  case first =>
    have H := HC3.out
    clear HC3
    by_cases c4 : (a0.size : Int) > 9000
    · rw [if_pos c4] at H
      have c4b0 : decide (9000 < (a0.size : Int)) = true := decide_eq_true c4
      have c4b1 : decide (9000 < a0.size) = true := decide_eq_true (by omega)
      clear c4
      (first | rw [c4b0] | rw [c4b1] | (simp only [i64_w, i32_w]; rw [c4b0]) | skip)
      have H' := Aside0.mk H
      clear H
      go_wp2
      go_meet
      case rel => exact ⟨_, (true), (by first | rfl | (simp; done) | (simp [*]; done)), H', ⟨by first | omega | exact Nat.le_refl _⟩, ⟨by repeat (first | (with_reducible first | exact HB.out | apply below_alloc | apply pw_below_drewN | apply below_drew1) | exact HB.out)⟩⟩
    · rw [if_neg c4] at H
      have c4b0 : decide (9000 < (a0.size : Int)) = false := decide_eq_false c4
      have c4b1 : decide (9000 < a0.size) = false := decide_eq_false (by omega)
      clear c4
      (first | rw [c4b0] | rw [c4b1] | (simp only [i64_w, i32_w]; rw [c4b0]) | skip)
      have H' := Aside0.mk H
      clear H
      go_wp2
      go_meet
      case rel => exact ⟨_, (decide ((l1.length : Int) > 80)), (by first | rfl | (simp; done) | (simp [*]; done)), H', ⟨by first | omega | exact Nat.le_refl _⟩, ⟨by repeat (first | (with_reducible first | exact HB.out | apply below_alloc | apply pw_below_drewN | apply below_drew1) | exact HB.out)⟩⟩
  case rest =>
    clear HC3
    try clear c1
    try clear p2
    try clear c4
    try clear c4b0
    try clear c4b1
    obtain ⟨kq, x22_2, rfl, HA, HJ2, HB⟩ := hcut
    cases kq with
    | zero => exact absurd HA.out (by simp [secateurlaw22_RulesTexts.j0])
    | succ kj2 =>
      have H := HA.out
      clear HA
      simp only [secateurlaw22_RulesTexts.j0] at H
      by_cases c5 : x22_2 = true
      · subst c5
        have H1 : ((secateurlaw22_live.f).bind fun t123 => (some t123)) = some r := by rw [if_pos rfl] at H; exact H
        clear H
        have H := H1
        clear H1
        replace H := Option.bind_eq_some_iff.mp H
        obtain ⟨t123, A60, H⟩ := H
        replace H : (some t123) = some r := H
        have A6 := Aside0.mk A60
        clear A60
        obtain rfl := Option.some.inj H
        go_wp2_with (first | ((with_reducible refine gate_callee (f := 48) rfl ?_); refine goesL_ (some 23) rfl rfl Tryd.func48 (by kernel_rfl) rfl #[] rfl (by (try simp only [List.map_toArray, List.map_cons, List.map_nil]); first | done | rfl | (simp only [List.length_drop, List.length_take]; rfl)) ?_; (with_reducible refine (secateurlaw22_live.calls  t123 _ ?side1 A6.out).mono ?_); (case side1 => exact MaxL.below HGMaxL.out (by repeat (first | (with_reducible first | exact HB.out | apply below_alloc | apply pw_below_drewN | apply below_drew1) | exact HB.out))); rintro e w7 ⟨rfl, hb⟩; refine ⟨_, rfl, ?_⟩; have n0_ := Aside0.mk (below_step (by repeat (first | (with_reducible first | exact HB.out | apply below_alloc | apply pw_below_drewN | apply below_drew1) | exact HB.out)) hb); clear HB; have HB := n0_; clear n0_; (try clear hb); (try clear hb2); (try clear hk); (try clear hi)))
        go_ret
        exact ⟨by first | rfl | (simp [errW_none, errW_some] <;> rfl) | (simp [*, errW_none, errW_some] <;> rfl), by repeat (first | (with_reducible first | exact HB.out | apply below_alloc | apply pw_below_drewN | apply below_drew1) | exact HB.out)⟩
      · replace c5 := Bool.eq_false_iff.mpr c5
        subst c5
        have H1 : (secateurlaw22_RulesTexts.l0 kj2 a0 l1 ([] : List (S66)) 0) = some r := by rw [if_neg (show ¬ (false = true) by decide)] at H; exact H
        clear H
        have H := H1
        clear H1
        have H' := Aside0.mk H
        clear H
        go_wp2
        go_loopg [5, 6] kj2 (fun kq v5 v6 w' => ∃ (x5_2 : List (S66)) (x6_2 : Int), v6 = .int .i64 x6_2 ∧ Aside0 (secateurlaw22_RulesTexts.l0 kq a0 l1 x5_2 x6_2 = some r) ∧ Aside0 (kq ≤ kj2) ∧ Aside0 (Kd.R k66 66 w' w.heap.size (fun _ => True) v5 x5_2) ∧ Aside0 (Below w.heap.size w w'))
        case atStart => exact ⟨(([] : List (S66))), (0), (by first | rfl | (simp; done) | (simp [*]; done)), H', ⟨Nat.le_refl _⟩, ⟨by first | exact Kd.R_nil _ _ _ _ _ | exact Kd.N_nil _ _ _ _ _ | exact Kd.V_nil _ _ _ _ _ | exact Kd.Q_nil _ _ _ _ _ | exact Kd.S_nil _ _ _ _ _⟩, ⟨by repeat (first | (with_reducible first | exact HB.out | apply below_alloc | apply pw_below_drewN | apply below_drew1) | exact HB.out)⟩⟩
        case round =>
          clear H'
          try clear c1
          try clear p2
          try clear c4
          try clear c4b0
          try clear c4b1
          try clear c5
          try clear p2
          obtain ⟨x5_2, x6_2, rfl, HA, HK2, HO_5, HB⟩ := hrel
          cases gk with
          | zero => exact absurd HA.out (by simp [secateurlaw22_RulesTexts.l0])
          | succ k2 =>
            have H := HA.out
            clear HA
            simp only [secateurlaw22_RulesTexts.l0] at H
            by_cases c8 : x6_2 < (l1.length : Int)
            · rw [if_pos c8] at H
              have c8b0 : decide (x6_2 < (l1.length : Int)) = true := decide_eq_true c8
              clear c8
              by_cases c9 : 0 ≤ x6_2
              · rw [if_pos c9] at H
                have c9b0 : decide (0 ≤ x6_2) = true := decide_eq_true c9
                clear c9
                replace H := Option.bind_eq_some_iff.mp H
                obtain ⟨⟨t125, t126, t127, t128, t129⟩, A100, H⟩ := H
                replace H : (if x5_2.length < 2513169434916 then ((some (x5_2 ++ [(⟨t125, t126, t127, t128, t129⟩ : S66)] : List (S66))).bind fun y130 => (if x6_2 < (y130.length : Int) then ((rules_Right.f ((rd_T66 y130 x6_2).f0) ((rd_T66 y130 x6_2).f1) ((rd_T66 y130 x6_2).f2) ((rd_T66 y130 x6_2).f3) ((rd_T66 y130 x6_2).f4)).bind fun t134 => ((secateurref22_Right.f ((rd_T66 y130 x6_2).f0) ((rd_T66 y130 x6_2).f1) ((rd_T66 y130 x6_2).f2) ((rd_T66 y130 x6_2).f3) ((rd_T66 y130 x6_2).f4)).bind fun t136 => (if (t134 != t136) = true then (some false) else (secateurlaw22_RulesTexts.l0 k2 a0 l1 y130 (wrap64 (x6_2 + 1)))))) else (none))) else (none)) = some r := H
                have A10 := Aside0.mk A100
                clear A100
                by_cases c11 : x5_2.length < 2513169434916
                · rw [if_pos c11] at H
                  have LMc11 := Aside0.mk c11
                  clear c11
                  obtain ⟨y130, hy130⟩ : ∃ y_ : List (S66), y_ = (x5_2 ++ [(⟨t125, t126, t127, t128, t129⟩ : S66)]) := ⟨_, rfl⟩
                  replace H : (if x6_2 < (y130.length : Int) then ((rules_Right.f ((rd_T66 y130 x6_2).f0) ((rd_T66 y130 x6_2).f1) ((rd_T66 y130 x6_2).f2) ((rd_T66 y130 x6_2).f3) ((rd_T66 y130 x6_2).f4)).bind fun t134 => ((secateurref22_Right.f ((rd_T66 y130 x6_2).f0) ((rd_T66 y130 x6_2).f1) ((rd_T66 y130 x6_2).f2) ((rd_T66 y130 x6_2).f3) ((rd_T66 y130 x6_2).f4)).bind fun t136 => (if (t134 != t136) = true then (some false) else (secateurlaw22_RulesTexts.l0 k2 a0 l1 y130 (wrap64 (x6_2 + 1)))))) else (none)) = some r := by first | (rw [hy130]; with_reducible exact H) | (have H2_ := (Option.bind_some _ _).symm.trans H; rw [hy130]; with_reducible exact H2_) | (have H2_ := (Option.bind_some _ _).symm.trans H; with_reducible exact H2_) | with_reducible exact H | (rw [hy130]; exact H) | exact H
                  have Ny130 := Aside0.mk hy130
                  clear hy130
                  by_cases c12 : x6_2 < (y130.length : Int)
                  · rw [if_pos c12] at H
                    have c12b0 : decide (x6_2 < (y130.length : Int)) = true := decide_eq_true c12
                    clear c12
                    replace H := Option.bind_eq_some_iff.mp H
                    obtain ⟨t134, A130, H⟩ := H
                    replace H : ((secateurref22_Right.f ((rd_T66 y130 x6_2).f0) ((rd_T66 y130 x6_2).f1) ((rd_T66 y130 x6_2).f2) ((rd_T66 y130 x6_2).f3) ((rd_T66 y130 x6_2).f4)).bind fun t136 => (if (t134 != t136) = true then (some false) else (secateurlaw22_RulesTexts.l0 k2 a0 l1 y130 (wrap64 (x6_2 + 1))))) = some r := H
                    have A13 := Aside0.mk A130
                    clear A130
                    replace H := Option.bind_eq_some_iff.mp H
                    obtain ⟨t136, A140, H⟩ := H
                    replace H : (if (t134 != t136) = true then (some false) else (secateurlaw22_RulesTexts.l0 k2 a0 l1 y130 (wrap64 (x6_2 + 1)))) = some r := H
                    have A14 := Aside0.mk A140
                    clear A140
                    by_cases c15 : (t134 != t136) = true
                    · rw [if_pos c15] at H
                      have c15b0 : (t134 != t136) = true := c15
                      (try (have c15b1 : decide (t134 = t136) = false := by simpa using c15))
                      (try (have c15b2 : (t134 == t136) = false := by simpa using c15))
                      (try (have c15b3 : ¬ (t134 = t136) := by simpa using c15))
                      clear c15
                      obtain rfl := Option.some.inj H
                      have p124 : 0 ≤ (x6_2 : Int) := of_decide_eq_true (by first | (with_reducible assumption) | assumption)
                      have q124 : x6_2 < (l1.length : Int) := of_decide_eq_true (by first | (with_reducible assumption) | assumption)
                      obtain ⟨ad124, e124, hx124_0, hx124_1, hx124_2, hx124_3, hx124_4⟩ := at_T66 HR1.out x6_2 p124 q124
                      cases e124
                      replace hx124_0 := (HB.out.cell (World.block_lt_of_cell? w _ hx124_0)).trans hx124_0
                      replace hx124_1 := (HB.out.cell (World.block_lt_of_cell? w _ hx124_1)).trans hx124_1
                      replace hx124_2 := (HB.out.cell (World.block_lt_of_cell? w _ hx124_2)).trans hx124_2
                      replace hx124_3 := (HB.out.cell (World.block_lt_of_cell? w _ hx124_3)).trans hx124_3
                      replace hx124_4 := (HB.out.cell (World.block_lt_of_cell? w _ hx124_4)).trans hx124_4
                      replace p124 := eq_true p124
                      replace q124 := eq_true q124
                      try go_wp2_with (first | ((with_reducible refine gate_callee (f := 49) rfl ?_); refine goesL_ (some 35) rfl rfl Tryd.func49 (by kernel_rfl) rfl #[.agg #[.bool ((rd_T66 l1 x6_2).f0), .bool ((rd_T66 l1 x6_2).f1), .string ((rd_T66 l1 x6_2).f2), .string ((rd_T66 l1 x6_2).f3), .string ((rd_T66 l1 x6_2).f4)]] rfl (by (try simp only [List.map_toArray, List.map_cons, List.map_nil]); first | done | rfl | (simp only [List.length_drop, List.length_take]; rfl)) ?_; (with_reducible refine (secateurlaw22_short.calls ((rd_T66 l1 x6_2).f0) ((rd_T66 l1 x6_2).f1) ((rd_T66 l1 x6_2).f2) ((rd_T66 l1 x6_2).f3) ((rd_T66 l1 x6_2).f4) t125 t126 t127 t128 t129 _ A10.out).mono ?_); rintro e w16 ⟨rfl, hb⟩; refine ⟨_, rfl, ?_⟩; have n0_ := Aside0.mk (Kd.R_below (by (with_reducible repeat (first | apply Kd.R_alloc | apply Kd.R_drewN | apply Kd.R_drew)); exact HO_5.out) hb); have n1_ := Aside0.mk (below_step (by repeat (first | (with_reducible first | exact HB.out | apply below_alloc | apply pw_below_drewN | apply below_drew1) | exact HB.out)) hb); clear HO_5; clear HB; have HO_5 := n0_; have HB := n1_; clear n0_ n1_; (try clear hb); (try clear hb2); (try clear hk); (try clear hi)) | ((with_reducible refine gate_builtin (b := .append) (xs := #[.tmp 30, .tmp 36]) rfl ?_); (try (refine gate_guard (by rfl) ?_; dsimp only)); at_builtin; refine Kd.R_append k66 (w0 := w) w.heap.size rfl (.tmp 30) (.tmp 36) 64 66 (.agg #[(.bool false), (.bool false), (.string ⟨#[]⟩), (.string ⟨#[]⟩), (.string ⟨#[]⟩)]) 56 rfl Tryd.underlying64 info66 rfl (by decide) (by omega) u5 x5_2 (⟨t125, t126, t127, t128, t129⟩ : S66) [.bool t125, .bool t126, .string t127, .string t128, .string t129] (fun _ => True) (fun _ => False) rfl rfl ?aP (fun _ hk => hk.elim) ?aF ?aO ?aB ?aS ?aL ?_; (case aP => exact k66_mkM _ _ _ (⟨t125, t126, t127, t128, t129⟩ : S66)); (case aB => exact (by repeat (first | (with_reducible first | exact HB.out | apply below_alloc | apply pw_below_drewN | apply below_drew1) | exact HB.out))); (case aF => exact (fun _ _ => trivial)); (case aO => exact (by (with_reducible repeat (first | apply Kd.R_alloc | apply Kd.R_drewN | apply Kd.R_drew)); exact HO_5.out)); (case aS => exact (below_size (by repeat (first | (with_reducible first | exact HB.out | apply below_alloc | apply pw_below_drewN | apply below_drew1) | exact HB.out)))); (case aL => have := LMc11.out; omega); intro v131 w17 ho hb hg hat; rw [← Ny130.out] at ho; have n0_ := Aside0.mk (hb); have n1_ := Aside0.mk (ho); clear HB; clear HO_5; have HB := n0_; have HO132 := n1_; clear n0_ n1_; clear ho hb hg hat))
                      have n0_ := Aside0.mk (Kd.R_drew HO132.out)
                      have n1_ := Aside0.mk (below_drew1 HB.out)
                      clear HO132
                      clear HB
                      have HO132 := n0_
                      have HB := n1_
                      clear n0_ n1_
                      obtain ⟨Ao19, co19, eo19⟩ := Kd.R_slice HO132.out
                      (first | subst eo19 | (injection eo19 with f1_ f2_ f3_; have f4_ := f1_.symm; have f5_ := f3_.symm; clear f1_ f2_ f3_; subst f4_; subst f5_))
                      have p133 : 0 ≤ (x6_2 : Int) := of_decide_eq_true (by first | (with_reducible assumption) | assumption)
                      have q133 : x6_2 < (y130.length : Int) := of_decide_eq_true (by first | (with_reducible assumption) | assumption)
                      obtain ⟨ad133, e133, hx133_0, hx133_1, hx133_2, hx133_3, hx133_4⟩ := at_T66 (Kd.R_reads' HO132.out).2.2 x6_2 p133 q133
                      cases e133
                      replace p133 := eq_true p133
                      replace q133 := eq_true q133
                      have p135 : 0 ≤ (x6_2 : Int) := of_decide_eq_true (by first | (with_reducible assumption) | assumption)
                      have q135 : x6_2 < (y130.length : Int) := of_decide_eq_true (by first | (with_reducible assumption) | assumption)
                      obtain ⟨ad135, e135, hx135_0, hx135_1, hx135_2, hx135_3, hx135_4⟩ := at_T66 (Kd.R_reads' HO132.out).2.2 x6_2 p135 q135
                      obtain rfl : ad133 = ad135 := (by injection e135)
                      replace p135 := eq_true p135
                      replace q135 := eq_true q135
                      refine start_ (n := 11) (S := fun w' => w'.cell? (ad133.add ((x6_2).toNat * 5)) = some (.bool ((rd_T66 y130 x6_2).f0)) ∧ w'.cell? ⟨(ad133.add ((x6_2).toNat * 5)).block, (ad133.add ((x6_2).toNat * 5)).off + 1, none⟩ = some (.bool ((rd_T66 y130 x6_2).f1)) ∧ w'.cell? ⟨(ad133.add ((x6_2).toNat * 5)).block, (ad133.add ((x6_2).toNat * 5)).off + 2, none⟩ = some (.string ((rd_T66 y130 x6_2).f2)) ∧ w'.cell? ⟨(ad133.add ((x6_2).toNat * 5)).block, (ad133.add ((x6_2).toNat * 5)).off + 3, none⟩ = some (.string ((rd_T66 y130 x6_2).f3)) ∧ w'.cell? ⟨(ad133.add ((x6_2).toNat * 5)).block, (ad133.add ((x6_2).toNat * 5)).off + 4, none⟩ = some (.string ((rd_T66 y130 x6_2).f4)) ∧ w'.cell? (ad133.add ((x6_2).toNat * 5)) = some (.bool ((rd_T66 y130 x6_2).f0)) ∧ w'.cell? ⟨(ad133.add ((x6_2).toNat * 5)).block, (ad133.add ((x6_2).toNat * 5)).off + 1, none⟩ = some (.bool ((rd_T66 y130 x6_2).f1)) ∧ w'.cell? ⟨(ad133.add ((x6_2).toNat * 5)).block, (ad133.add ((x6_2).toNat * 5)).off + 2, none⟩ = some (.string ((rd_T66 y130 x6_2).f2)) ∧ w'.cell? ⟨(ad133.add ((x6_2).toNat * 5)).block, (ad133.add ((x6_2).toNat * 5)).off + 3, none⟩ = some (.string ((rd_T66 y130 x6_2).f3)) ∧ w'.cell? ⟨(ad133.add ((x6_2).toNat * 5)).block, (ad133.add ((x6_2).toNat * 5)).off + 4, none⟩ = some (.string ((rd_T66 y130 x6_2).f4))) (ds := []) #[false, false, false, false, false, false, false, false, false, false, false] (by kernel_rfl) rfl rfl ⟨hx133_0, hx133_1, hx133_2, hx133_3, hx133_4, hx135_0, hx135_1, hx135_2, hx135_3, hx135_4⟩ (fun hHeld => ?_); refine with_tabW secateurlaw22_RulesTexts.tab8 secateurlaw22_RulesTexts.bits8 (fun HT_ HW_ => ?_)
                      generalize w17.drew = w18 at HO132 HB hx133_0 hx133_1 hx133_2 hx133_3 hx133_4 hx135_0 hx135_1 hx135_2 hx135_3 hx135_4 hHeld ⊢
                      refine pure_ (i := 0) (N := some 38) (v := ?_) (a' := ?_) #[true, false, false, false, false, false, false, false, false, false, false] rfl rfl (any_of HT_.out (by kernel_rfl)) (fun _ _ _ h => h) (Or.inl ⟨by rfl, ?_⟩) ?_ ?_
                      rotate_left
                      · intro w'
                        go_simp
                        with_reducible rfl
                      rotate_left
                      · simp only [Act.put, List.setIfInBounds_toArray, List.set_cons_zero, List.set_cons_succ, i64_w, i32_w]
                        rfl
                      refine pure_ (i := 1) (N := some 39) (v := ?_) (a' := ?_) #[true, true, false, false, false, false, false, false, false, false, false] rfl rfl (any_of HT_.out (by kernel_rfl)) (fun _ _ _ h => h) (Or.inl ⟨by rfl, ?_⟩) ?_ ?_
                      rotate_left
                      · intro w'
                        go_simp
                        with_reducible rfl
                      rotate_left
                      · simp only [Act.put, List.setIfInBounds_toArray, List.set_cons_zero, List.set_cons_succ, i64_w, i32_w]
                        rfl
                      refine pure_ (i := 2) (N := some 40) (v := ?_) (a' := ?_) #[true, true, true, false, false, false, false, false, false, false, false] rfl rfl (any_of HT_.out (by kernel_rfl)) (fun _ _ _ h => h) (Or.inl ⟨by rfl, ?_⟩) ?_ ?_
                      rotate_left
                      · intro w'
                        go_simp
                        with_reducible rfl
                      rotate_left
                      · simp only [Act.put, List.setIfInBounds_toArray, List.set_cons_zero, List.set_cons_succ, i64_w, i32_w]
                        rfl
                      refine pure_ (i := 5) (N := some 43) (v := ?_) (a' := ?_) #[true, true, true, false, false, true, false, false, false, false, false] rfl rfl (any_of HT_.out (by kernel_rfl)) (fun _ _ _ h => h) (Or.inl ⟨by rfl, ?_⟩) ?_ ?_
                      rotate_left
                      · intro w'
                        go_simp
                        with_reducible rfl
                      rotate_left
                      · simp only [Act.put, List.setIfInBounds_toArray, List.set_cons_zero, List.set_cons_succ, i64_w, i32_w]
                        rfl
                      refine pure_ (i := 6) (N := some 44) (v := ?_) (a' := ?_) #[true, true, true, false, false, true, true, false, false, false, false] rfl rfl (any_of HT_.out (by kernel_rfl)) (fun _ _ _ h => h) (Or.inl ⟨by rfl, ?_⟩) ?_ ?_
                      rotate_left
                      · intro w'
                        go_simp
                        with_reducible rfl
                      rotate_left
                      · simp only [Act.put, List.setIfInBounds_toArray, List.set_cons_zero, List.set_cons_succ, i64_w, i32_w]
                        rfl
                      refine pure_ (i := 7) (N := some 45) (v := ?_) (a' := ?_) #[true, true, true, false, false, true, true, true, false, false, false] rfl rfl (any_of HT_.out (by kernel_rfl)) (fun _ _ _ h => h) (Or.inl ⟨by rfl, ?_⟩) ?_ ?_
                      rotate_left
                      · intro w'
                        go_simp
                        with_reducible rfl
                      rotate_left
                      · simp only [Act.put, List.setIfInBounds_toArray, List.set_cons_zero, List.set_cons_succ, i64_w, i32_w]
                        rfl
                      refine take_ (i := 3) (N := some 41) (v := ?_) (a' := ?_) #[true, true, true, true, false, true, true, true, false, false, false] rfl rfl (take_ofW HT_.out HW_.out (by kernel_rfl)) (fun _ _ _ h => h) (Or.inl ⟨by rfl, ?_⟩) hHeld ?_ ?_
                      rotate_left
                      · rintro w' ⟨s0, s1, s2, s3, s4, s5, s6, s7, s8, s9⟩
                        go_simp
                        with_reducible rfl
                      rotate_left
                      · simp only [Act.put, List.setIfInBounds_toArray, List.set_cons_zero, List.set_cons_succ, i64_w, i32_w]
                        rfl
                      refine take_ (i := 8) (N := some 46) (v := ?_) (a' := ?_) #[true, true, true, true, false, true, true, true, true, false, false] rfl rfl (take_ofW HT_.out HW_.out (by kernel_rfl)) (fun _ _ _ h => h) (Or.inl ⟨by rfl, ?_⟩) hHeld ?_ ?_
                      rotate_left
                      · rintro w' ⟨s0, s1, s2, s3, s4, s5, s6, s7, s8, s9⟩
                        go_simp
                        with_reducible rfl
                      rotate_left
                      · simp only [Act.put, List.setIfInBounds_toArray, List.set_cons_zero, List.set_cons_succ, i64_w, i32_w]
                        rfl
                      refine one_ (i := 4) (N := some 42) #[true, true, true, true, true, true, true, true, true, false, false] rfl rfl (one_of HT_.out (by kernel_rfl)) (by decide) (fun K hK => ?_)
                      refine goes_ Tryd.func50 (by kernel_rfl) rfl #[.agg #[.bool ((rd_T66 y130 x6_2).f0), .bool ((rd_T66 y130 x6_2).f1), .string ((rd_T66 y130 x6_2).f2), .string ((rd_T66 y130 x6_2).f3), .string ((rd_T66 y130 x6_2).f4)]] (by rfl) rfl rfl (by (try simp only [List.map_toArray, List.map_cons, List.map_nil]); first | done | rfl | (simp only [List.length_drop, List.length_take]; rfl)) ?_
                      with_reducible refine (rules_Right.calls ((rd_T66 y130 x6_2).f0) ((rd_T66 y130 x6_2).f1) ((rd_T66 y130 x6_2).f2) ((rd_T66 y130 x6_2).f3) ((rd_T66 y130 x6_2).f4) t134 _ A13.out).mono ?_
                      rintro e w20 ⟨rfl, hb⟩
                      have HS0_ := (hb.cell (World.block_lt_of_cell? _ _ (hHeld.1))).trans (hHeld.1)
                      have HS1_ := (hb.cell (World.block_lt_of_cell? _ _ (hHeld.2.1))).trans (hHeld.2.1)
                      have HS2_ := (hb.cell (World.block_lt_of_cell? _ _ (hHeld.2.2.1))).trans (hHeld.2.2.1)
                      have HS3_ := (hb.cell (World.block_lt_of_cell? _ _ (hHeld.2.2.2.1))).trans (hHeld.2.2.2.1)
                      have HS4_ := (hb.cell (World.block_lt_of_cell? _ _ (hHeld.2.2.2.2.1))).trans (hHeld.2.2.2.2.1)
                      have HS5_ := (hb.cell (World.block_lt_of_cell? _ _ (hHeld.2.2.2.2.2.1))).trans (hHeld.2.2.2.2.2.1)
                      have HS6_ := (hb.cell (World.block_lt_of_cell? _ _ (hHeld.2.2.2.2.2.2.1))).trans (hHeld.2.2.2.2.2.2.1)
                      have HS7_ := (hb.cell (World.block_lt_of_cell? _ _ (hHeld.2.2.2.2.2.2.2.1))).trans (hHeld.2.2.2.2.2.2.2.1)
                      have HS8_ := (hb.cell (World.block_lt_of_cell? _ _ (hHeld.2.2.2.2.2.2.2.2.1))).trans (hHeld.2.2.2.2.2.2.2.2.1)
                      have HS9_ := (hb.cell (World.block_lt_of_cell? _ _ (hHeld.2.2.2.2.2.2.2.2.2))).trans (hHeld.2.2.2.2.2.2.2.2.2)
                      refine ⟨_, rfl, ?_⟩
                      have n0_ := Aside0.mk (Kd.R_below (by (with_reducible repeat (first | apply Kd.R_alloc | apply Kd.R_drewN | apply Kd.R_drew)); exact HO132.out) hb)
                      have n1_ := Aside0.mk (below_step (by repeat (first | (with_reducible first | exact HB.out | apply below_alloc | apply pw_below_drewN | apply below_drew1) | exact HB.out)) hb)
                      clear HO132
                      clear HB
                      have HO132 := n0_
                      have HB := n1_
                      clear n0_ n1_
                      (try clear hb)
                      (try clear hb2)
                      (try clear hk)
                      (try clear hi)
                      refine hK.out _ _ ⟨HS0_, HS1_, HS2_, HS3_, HS4_, HS5_, HS6_, HS7_, HS8_, HS9_⟩ (fun hHeld => ?_)
                      clear hK K
                      refine norm_ (a' := ?_) ?_ ?_
                      rotate_left
                      · show Act.put _ (some 42) _ = _
                        simp only [Act.put, List.setIfInBounds_toArray, List.set_cons_zero, List.set_cons_succ, i64_w, i32_w]
                        rfl
                      refine one_ (i := 9) (N := some 47) #[true, true, true, true, true, true, true, true, true, true, false] rfl rfl (one_of HT_.out (by kernel_rfl)) (by decide) (fun K hK => ?_)
                      refine goes_ Tryd.func51 (by kernel_rfl) rfl #[.agg #[.bool ((rd_T66 y130 x6_2).f0), .bool ((rd_T66 y130 x6_2).f1), .string ((rd_T66 y130 x6_2).f2), .string ((rd_T66 y130 x6_2).f3), .string ((rd_T66 y130 x6_2).f4)]] (by rfl) rfl rfl (by (try simp only [List.map_toArray, List.map_cons, List.map_nil]); first | done | rfl | (simp only [List.length_drop, List.length_take]; rfl)) ?_
                      with_reducible refine (secateurref22_Right.calls ((rd_T66 y130 x6_2).f0) ((rd_T66 y130 x6_2).f1) ((rd_T66 y130 x6_2).f2) ((rd_T66 y130 x6_2).f3) ((rd_T66 y130 x6_2).f4) t136 _ A14.out).mono ?_
                      rintro e w21 ⟨rfl, hb⟩
                      have HS0_ := (hb.cell (World.block_lt_of_cell? _ _ (hHeld.1))).trans (hHeld.1)
                      have HS1_ := (hb.cell (World.block_lt_of_cell? _ _ (hHeld.2.1))).trans (hHeld.2.1)
                      have HS2_ := (hb.cell (World.block_lt_of_cell? _ _ (hHeld.2.2.1))).trans (hHeld.2.2.1)
                      have HS3_ := (hb.cell (World.block_lt_of_cell? _ _ (hHeld.2.2.2.1))).trans (hHeld.2.2.2.1)
                      have HS4_ := (hb.cell (World.block_lt_of_cell? _ _ (hHeld.2.2.2.2.1))).trans (hHeld.2.2.2.2.1)
                      have HS5_ := (hb.cell (World.block_lt_of_cell? _ _ (hHeld.2.2.2.2.2.1))).trans (hHeld.2.2.2.2.2.1)
                      have HS6_ := (hb.cell (World.block_lt_of_cell? _ _ (hHeld.2.2.2.2.2.2.1))).trans (hHeld.2.2.2.2.2.2.1)
                      have HS7_ := (hb.cell (World.block_lt_of_cell? _ _ (hHeld.2.2.2.2.2.2.2.1))).trans (hHeld.2.2.2.2.2.2.2.1)
                      have HS8_ := (hb.cell (World.block_lt_of_cell? _ _ (hHeld.2.2.2.2.2.2.2.2.1))).trans (hHeld.2.2.2.2.2.2.2.2.1)
                      have HS9_ := (hb.cell (World.block_lt_of_cell? _ _ (hHeld.2.2.2.2.2.2.2.2.2))).trans (hHeld.2.2.2.2.2.2.2.2.2)
                      refine ⟨_, rfl, ?_⟩
                      have n0_ := Aside0.mk (Kd.R_below (by (with_reducible repeat (first | apply Kd.R_alloc | apply Kd.R_drewN | apply Kd.R_drew)); exact HO132.out) hb)
                      have n1_ := Aside0.mk (below_step (by repeat (first | (with_reducible first | exact HB.out | apply below_alloc | apply pw_below_drewN | apply below_drew1) | exact HB.out)) hb)
                      clear HO132
                      clear HB
                      have HO132 := n0_
                      have HB := n1_
                      clear n0_ n1_
                      (try clear hb)
                      (try clear hb2)
                      (try clear hk)
                      (try clear hi)
                      refine hK.out _ _ ⟨HS0_, HS1_, HS2_, HS3_, HS4_, HS5_, HS6_, HS7_, HS8_, HS9_⟩ (fun hHeld => ?_)
                      clear hK K
                      refine norm_ (a' := ?_) ?_ ?_
                      rotate_left
                      · show Act.put _ (some 47) _ = _
                        simp only [Act.put, List.setIfInBounds_toArray, List.set_cons_zero, List.set_cons_succ, i64_w, i32_w]
                        rfl
                      refine pure_ (i := 10) (N := some 48) (v := ?_) (a' := ?_) #[true, true, true, true, true, true, true, true, true, true, true] rfl rfl (any_of HT_.out (by kernel_rfl)) (fun _ _ _ h => h) (Or.inl ⟨by rfl, ?_⟩) ?_ ?_
                      rotate_left
                      · intro w'
                        go_simp
                        with_reducible rfl
                      rotate_left
                      · simp only [Act.put, List.setIfInBounds_toArray, List.set_cons_zero, List.set_cons_succ, i64_w, i32_w]
                        rfl
                      refine done_ (done_of HT_.out (by kernel_rfl)) ?_
                      try go_wp2
                      go_ret
                      exact ⟨by first | rfl | (simp [errW_none, errW_some] <;> rfl) | (simp [*, errW_none, errW_some] <;> rfl), by repeat (first | (with_reducible first | exact HB.out | apply below_alloc | apply pw_below_drewN | apply below_drew1) | exact HB.out)⟩
                    · rw [if_neg c15] at H
                      have c15b0 : (t134 != t136) = false := by simpa using c15
                      (try (have c15b1 : decide (t134 = t136) = true := by simpa using c15))
                      (try (have c15b2 : (t134 == t136) = true := by simpa using c15))
                      clear c15
                      have H' := Aside0.mk H
                      clear H
                      have p124 : 0 ≤ (x6_2 : Int) := of_decide_eq_true (by first | (with_reducible assumption) | assumption)
                      have q124 : x6_2 < (l1.length : Int) := of_decide_eq_true (by first | (with_reducible assumption) | assumption)
                      obtain ⟨ad124, e124, hx124_0, hx124_1, hx124_2, hx124_3, hx124_4⟩ := at_T66 HR1.out x6_2 p124 q124
                      cases e124
                      replace hx124_0 := (HB.out.cell (World.block_lt_of_cell? w _ hx124_0)).trans hx124_0
                      replace hx124_1 := (HB.out.cell (World.block_lt_of_cell? w _ hx124_1)).trans hx124_1
                      replace hx124_2 := (HB.out.cell (World.block_lt_of_cell? w _ hx124_2)).trans hx124_2
                      replace hx124_3 := (HB.out.cell (World.block_lt_of_cell? w _ hx124_3)).trans hx124_3
                      replace hx124_4 := (HB.out.cell (World.block_lt_of_cell? w _ hx124_4)).trans hx124_4
                      replace p124 := eq_true p124
                      replace q124 := eq_true q124
                      try go_wp2_with (first | ((with_reducible refine gate_callee (f := 49) rfl ?_); refine goesL_ (some 35) rfl rfl Tryd.func49 (by kernel_rfl) rfl #[.agg #[.bool ((rd_T66 l1 x6_2).f0), .bool ((rd_T66 l1 x6_2).f1), .string ((rd_T66 l1 x6_2).f2), .string ((rd_T66 l1 x6_2).f3), .string ((rd_T66 l1 x6_2).f4)]] rfl (by (try simp only [List.map_toArray, List.map_cons, List.map_nil]); first | done | rfl | (simp only [List.length_drop, List.length_take]; rfl)) ?_; (with_reducible refine (secateurlaw22_short.calls ((rd_T66 l1 x6_2).f0) ((rd_T66 l1 x6_2).f1) ((rd_T66 l1 x6_2).f2) ((rd_T66 l1 x6_2).f3) ((rd_T66 l1 x6_2).f4) t125 t126 t127 t128 t129 _ A10.out).mono ?_); rintro e w22 ⟨rfl, hb⟩; refine ⟨_, rfl, ?_⟩; have n0_ := Aside0.mk (Kd.R_below (by (with_reducible repeat (first | apply Kd.R_alloc | apply Kd.R_drewN | apply Kd.R_drew)); exact HO_5.out) hb); have n1_ := Aside0.mk (below_step (by repeat (first | (with_reducible first | exact HB.out | apply below_alloc | apply pw_below_drewN | apply below_drew1) | exact HB.out)) hb); clear HO_5; clear HB; have HO_5 := n0_; have HB := n1_; clear n0_ n1_; (try clear hb); (try clear hb2); (try clear hk); (try clear hi)) | ((with_reducible refine gate_builtin (b := .append) (xs := #[.tmp 30, .tmp 36]) rfl ?_); (try (refine gate_guard (by rfl) ?_; dsimp only)); at_builtin; refine Kd.R_append k66 (w0 := w) w.heap.size rfl (.tmp 30) (.tmp 36) 64 66 (.agg #[(.bool false), (.bool false), (.string ⟨#[]⟩), (.string ⟨#[]⟩), (.string ⟨#[]⟩)]) 56 rfl Tryd.underlying64 info66 rfl (by decide) (by omega) u5 x5_2 (⟨t125, t126, t127, t128, t129⟩ : S66) [.bool t125, .bool t126, .string t127, .string t128, .string t129] (fun _ => True) (fun _ => False) rfl rfl ?aP (fun _ hk => hk.elim) ?aF ?aO ?aB ?aS ?aL ?_; (case aP => exact k66_mkM _ _ _ (⟨t125, t126, t127, t128, t129⟩ : S66)); (case aB => exact (by repeat (first | (with_reducible first | exact HB.out | apply below_alloc | apply pw_below_drewN | apply below_drew1) | exact HB.out))); (case aF => exact (fun _ _ => trivial)); (case aO => exact (by (with_reducible repeat (first | apply Kd.R_alloc | apply Kd.R_drewN | apply Kd.R_drew)); exact HO_5.out)); (case aS => exact (below_size (by repeat (first | (with_reducible first | exact HB.out | apply below_alloc | apply pw_below_drewN | apply below_drew1) | exact HB.out)))); (case aL => have := LMc11.out; omega); intro v131 w23 ho hb hg hat; rw [← Ny130.out] at ho; have n0_ := Aside0.mk (hb); have n1_ := Aside0.mk (ho); clear HB; clear HO_5; have HB := n0_; have HO132 := n1_; clear n0_ n1_; clear ho hb hg hat))
                      have n0_ := Aside0.mk (Kd.R_drew HO132.out)
                      have n1_ := Aside0.mk (below_drew1 HB.out)
                      clear HO132
                      clear HB
                      have HO132 := n0_
                      have HB := n1_
                      clear n0_ n1_
                      obtain ⟨Ao25, co25, eo25⟩ := Kd.R_slice HO132.out
                      (first | subst eo25 | (injection eo25 with f1_ f2_ f3_; have f4_ := f1_.symm; have f5_ := f3_.symm; clear f1_ f2_ f3_; subst f4_; subst f5_))
                      have p133 : 0 ≤ (x6_2 : Int) := of_decide_eq_true (by first | (with_reducible assumption) | assumption)
                      have q133 : x6_2 < (y130.length : Int) := of_decide_eq_true (by first | (with_reducible assumption) | assumption)
                      obtain ⟨ad133, e133, hx133_0, hx133_1, hx133_2, hx133_3, hx133_4⟩ := at_T66 (Kd.R_reads' HO132.out).2.2 x6_2 p133 q133
                      cases e133
                      replace p133 := eq_true p133
                      replace q133 := eq_true q133
                      have p135 : 0 ≤ (x6_2 : Int) := of_decide_eq_true (by first | (with_reducible assumption) | assumption)
                      have q135 : x6_2 < (y130.length : Int) := of_decide_eq_true (by first | (with_reducible assumption) | assumption)
                      obtain ⟨ad135, e135, hx135_0, hx135_1, hx135_2, hx135_3, hx135_4⟩ := at_T66 (Kd.R_reads' HO132.out).2.2 x6_2 p135 q135
                      obtain rfl : ad133 = ad135 := (by injection e135)
                      replace p135 := eq_true p135
                      replace q135 := eq_true q135
                      refine start_ (n := 11) (S := fun w' => w'.cell? (ad133.add ((x6_2).toNat * 5)) = some (.bool ((rd_T66 y130 x6_2).f0)) ∧ w'.cell? ⟨(ad133.add ((x6_2).toNat * 5)).block, (ad133.add ((x6_2).toNat * 5)).off + 1, none⟩ = some (.bool ((rd_T66 y130 x6_2).f1)) ∧ w'.cell? ⟨(ad133.add ((x6_2).toNat * 5)).block, (ad133.add ((x6_2).toNat * 5)).off + 2, none⟩ = some (.string ((rd_T66 y130 x6_2).f2)) ∧ w'.cell? ⟨(ad133.add ((x6_2).toNat * 5)).block, (ad133.add ((x6_2).toNat * 5)).off + 3, none⟩ = some (.string ((rd_T66 y130 x6_2).f3)) ∧ w'.cell? ⟨(ad133.add ((x6_2).toNat * 5)).block, (ad133.add ((x6_2).toNat * 5)).off + 4, none⟩ = some (.string ((rd_T66 y130 x6_2).f4)) ∧ w'.cell? (ad133.add ((x6_2).toNat * 5)) = some (.bool ((rd_T66 y130 x6_2).f0)) ∧ w'.cell? ⟨(ad133.add ((x6_2).toNat * 5)).block, (ad133.add ((x6_2).toNat * 5)).off + 1, none⟩ = some (.bool ((rd_T66 y130 x6_2).f1)) ∧ w'.cell? ⟨(ad133.add ((x6_2).toNat * 5)).block, (ad133.add ((x6_2).toNat * 5)).off + 2, none⟩ = some (.string ((rd_T66 y130 x6_2).f2)) ∧ w'.cell? ⟨(ad133.add ((x6_2).toNat * 5)).block, (ad133.add ((x6_2).toNat * 5)).off + 3, none⟩ = some (.string ((rd_T66 y130 x6_2).f3)) ∧ w'.cell? ⟨(ad133.add ((x6_2).toNat * 5)).block, (ad133.add ((x6_2).toNat * 5)).off + 4, none⟩ = some (.string ((rd_T66 y130 x6_2).f4))) (ds := []) #[false, false, false, false, false, false, false, false, false, false, false] (by kernel_rfl) rfl rfl ⟨hx133_0, hx133_1, hx133_2, hx133_3, hx133_4, hx135_0, hx135_1, hx135_2, hx135_3, hx135_4⟩ (fun hHeld => ?_); refine with_tabW secateurlaw22_RulesTexts.tab8 secateurlaw22_RulesTexts.bits8 (fun HT_ HW_ => ?_)
                      generalize w23.drew = w24 at HO132 HB hx133_0 hx133_1 hx133_2 hx133_3 hx133_4 hx135_0 hx135_1 hx135_2 hx135_3 hx135_4 hHeld ⊢
                      refine pure_ (i := 0) (N := some 38) (v := ?_) (a' := ?_) #[true, false, false, false, false, false, false, false, false, false, false] rfl rfl (any_of HT_.out (by kernel_rfl)) (fun _ _ _ h => h) (Or.inl ⟨by rfl, ?_⟩) ?_ ?_
                      rotate_left
                      · intro w'
                        go_simp
                        with_reducible rfl
                      rotate_left
                      · simp only [Act.put, List.setIfInBounds_toArray, List.set_cons_zero, List.set_cons_succ, i64_w, i32_w]
                        rfl
                      refine pure_ (i := 1) (N := some 39) (v := ?_) (a' := ?_) #[true, true, false, false, false, false, false, false, false, false, false] rfl rfl (any_of HT_.out (by kernel_rfl)) (fun _ _ _ h => h) (Or.inl ⟨by rfl, ?_⟩) ?_ ?_
                      rotate_left
                      · intro w'
                        go_simp
                        with_reducible rfl
                      rotate_left
                      · simp only [Act.put, List.setIfInBounds_toArray, List.set_cons_zero, List.set_cons_succ, i64_w, i32_w]
                        rfl
                      refine pure_ (i := 2) (N := some 40) (v := ?_) (a' := ?_) #[true, true, true, false, false, false, false, false, false, false, false] rfl rfl (any_of HT_.out (by kernel_rfl)) (fun _ _ _ h => h) (Or.inl ⟨by rfl, ?_⟩) ?_ ?_
                      rotate_left
                      · intro w'
                        go_simp
                        with_reducible rfl
                      rotate_left
                      · simp only [Act.put, List.setIfInBounds_toArray, List.set_cons_zero, List.set_cons_succ, i64_w, i32_w]
                        rfl
                      refine pure_ (i := 5) (N := some 43) (v := ?_) (a' := ?_) #[true, true, true, false, false, true, false, false, false, false, false] rfl rfl (any_of HT_.out (by kernel_rfl)) (fun _ _ _ h => h) (Or.inl ⟨by rfl, ?_⟩) ?_ ?_
                      rotate_left
                      · intro w'
                        go_simp
                        with_reducible rfl
                      rotate_left
                      · simp only [Act.put, List.setIfInBounds_toArray, List.set_cons_zero, List.set_cons_succ, i64_w, i32_w]
                        rfl
                      refine pure_ (i := 6) (N := some 44) (v := ?_) (a' := ?_) #[true, true, true, false, false, true, true, false, false, false, false] rfl rfl (any_of HT_.out (by kernel_rfl)) (fun _ _ _ h => h) (Or.inl ⟨by rfl, ?_⟩) ?_ ?_
                      rotate_left
                      · intro w'
                        go_simp
                        with_reducible rfl
                      rotate_left
                      · simp only [Act.put, List.setIfInBounds_toArray, List.set_cons_zero, List.set_cons_succ, i64_w, i32_w]
                        rfl
                      refine pure_ (i := 7) (N := some 45) (v := ?_) (a' := ?_) #[true, true, true, false, false, true, true, true, false, false, false] rfl rfl (any_of HT_.out (by kernel_rfl)) (fun _ _ _ h => h) (Or.inl ⟨by rfl, ?_⟩) ?_ ?_
                      rotate_left
                      · intro w'
                        go_simp
                        with_reducible rfl
                      rotate_left
                      · simp only [Act.put, List.setIfInBounds_toArray, List.set_cons_zero, List.set_cons_succ, i64_w, i32_w]
                        rfl
                      refine take_ (i := 3) (N := some 41) (v := ?_) (a' := ?_) #[true, true, true, true, false, true, true, true, false, false, false] rfl rfl (take_ofW HT_.out HW_.out (by kernel_rfl)) (fun _ _ _ h => h) (Or.inl ⟨by rfl, ?_⟩) hHeld ?_ ?_
                      rotate_left
                      · rintro w' ⟨s0, s1, s2, s3, s4, s5, s6, s7, s8, s9⟩
                        go_simp
                        with_reducible rfl
                      rotate_left
                      · simp only [Act.put, List.setIfInBounds_toArray, List.set_cons_zero, List.set_cons_succ, i64_w, i32_w]
                        rfl
                      refine take_ (i := 8) (N := some 46) (v := ?_) (a' := ?_) #[true, true, true, true, false, true, true, true, true, false, false] rfl rfl (take_ofW HT_.out HW_.out (by kernel_rfl)) (fun _ _ _ h => h) (Or.inl ⟨by rfl, ?_⟩) hHeld ?_ ?_
                      rotate_left
                      · rintro w' ⟨s0, s1, s2, s3, s4, s5, s6, s7, s8, s9⟩
                        go_simp
                        with_reducible rfl
                      rotate_left
                      · simp only [Act.put, List.setIfInBounds_toArray, List.set_cons_zero, List.set_cons_succ, i64_w, i32_w]
                        rfl
                      refine one_ (i := 4) (N := some 42) #[true, true, true, true, true, true, true, true, true, false, false] rfl rfl (one_of HT_.out (by kernel_rfl)) (by decide) (fun K hK => ?_)
                      refine goes_ Tryd.func50 (by kernel_rfl) rfl #[.agg #[.bool ((rd_T66 y130 x6_2).f0), .bool ((rd_T66 y130 x6_2).f1), .string ((rd_T66 y130 x6_2).f2), .string ((rd_T66 y130 x6_2).f3), .string ((rd_T66 y130 x6_2).f4)]] (by rfl) rfl rfl (by (try simp only [List.map_toArray, List.map_cons, List.map_nil]); first | done | rfl | (simp only [List.length_drop, List.length_take]; rfl)) ?_
                      with_reducible refine (rules_Right.calls ((rd_T66 y130 x6_2).f0) ((rd_T66 y130 x6_2).f1) ((rd_T66 y130 x6_2).f2) ((rd_T66 y130 x6_2).f3) ((rd_T66 y130 x6_2).f4) t134 _ A13.out).mono ?_
                      rintro e w26 ⟨rfl, hb⟩
                      have HS0_ := (hb.cell (World.block_lt_of_cell? _ _ (hHeld.1))).trans (hHeld.1)
                      have HS1_ := (hb.cell (World.block_lt_of_cell? _ _ (hHeld.2.1))).trans (hHeld.2.1)
                      have HS2_ := (hb.cell (World.block_lt_of_cell? _ _ (hHeld.2.2.1))).trans (hHeld.2.2.1)
                      have HS3_ := (hb.cell (World.block_lt_of_cell? _ _ (hHeld.2.2.2.1))).trans (hHeld.2.2.2.1)
                      have HS4_ := (hb.cell (World.block_lt_of_cell? _ _ (hHeld.2.2.2.2.1))).trans (hHeld.2.2.2.2.1)
                      have HS5_ := (hb.cell (World.block_lt_of_cell? _ _ (hHeld.2.2.2.2.2.1))).trans (hHeld.2.2.2.2.2.1)
                      have HS6_ := (hb.cell (World.block_lt_of_cell? _ _ (hHeld.2.2.2.2.2.2.1))).trans (hHeld.2.2.2.2.2.2.1)
                      have HS7_ := (hb.cell (World.block_lt_of_cell? _ _ (hHeld.2.2.2.2.2.2.2.1))).trans (hHeld.2.2.2.2.2.2.2.1)
                      have HS8_ := (hb.cell (World.block_lt_of_cell? _ _ (hHeld.2.2.2.2.2.2.2.2.1))).trans (hHeld.2.2.2.2.2.2.2.2.1)
                      have HS9_ := (hb.cell (World.block_lt_of_cell? _ _ (hHeld.2.2.2.2.2.2.2.2.2))).trans (hHeld.2.2.2.2.2.2.2.2.2)
                      refine ⟨_, rfl, ?_⟩
                      have n0_ := Aside0.mk (Kd.R_below (by (with_reducible repeat (first | apply Kd.R_alloc | apply Kd.R_drewN | apply Kd.R_drew)); exact HO132.out) hb)
                      have n1_ := Aside0.mk (below_step (by repeat (first | (with_reducible first | exact HB.out | apply below_alloc | apply pw_below_drewN | apply below_drew1) | exact HB.out)) hb)
                      clear HO132
                      clear HB
                      have HO132 := n0_
                      have HB := n1_
                      clear n0_ n1_
                      (try clear hb)
                      (try clear hb2)
                      (try clear hk)
                      (try clear hi)
                      refine hK.out _ _ ⟨HS0_, HS1_, HS2_, HS3_, HS4_, HS5_, HS6_, HS7_, HS8_, HS9_⟩ (fun hHeld => ?_)
                      clear hK K
                      refine norm_ (a' := ?_) ?_ ?_
                      rotate_left
                      · show Act.put _ (some 42) _ = _
                        simp only [Act.put, List.setIfInBounds_toArray, List.set_cons_zero, List.set_cons_succ, i64_w, i32_w]
                        rfl
                      refine one_ (i := 9) (N := some 47) #[true, true, true, true, true, true, true, true, true, true, false] rfl rfl (one_of HT_.out (by kernel_rfl)) (by decide) (fun K hK => ?_)
                      refine goes_ Tryd.func51 (by kernel_rfl) rfl #[.agg #[.bool ((rd_T66 y130 x6_2).f0), .bool ((rd_T66 y130 x6_2).f1), .string ((rd_T66 y130 x6_2).f2), .string ((rd_T66 y130 x6_2).f3), .string ((rd_T66 y130 x6_2).f4)]] (by rfl) rfl rfl (by (try simp only [List.map_toArray, List.map_cons, List.map_nil]); first | done | rfl | (simp only [List.length_drop, List.length_take]; rfl)) ?_
                      with_reducible refine (secateurref22_Right.calls ((rd_T66 y130 x6_2).f0) ((rd_T66 y130 x6_2).f1) ((rd_T66 y130 x6_2).f2) ((rd_T66 y130 x6_2).f3) ((rd_T66 y130 x6_2).f4) t136 _ A14.out).mono ?_
                      rintro e w27 ⟨rfl, hb⟩
                      have HS0_ := (hb.cell (World.block_lt_of_cell? _ _ (hHeld.1))).trans (hHeld.1)
                      have HS1_ := (hb.cell (World.block_lt_of_cell? _ _ (hHeld.2.1))).trans (hHeld.2.1)
                      have HS2_ := (hb.cell (World.block_lt_of_cell? _ _ (hHeld.2.2.1))).trans (hHeld.2.2.1)
                      have HS3_ := (hb.cell (World.block_lt_of_cell? _ _ (hHeld.2.2.2.1))).trans (hHeld.2.2.2.1)
                      have HS4_ := (hb.cell (World.block_lt_of_cell? _ _ (hHeld.2.2.2.2.1))).trans (hHeld.2.2.2.2.1)
                      have HS5_ := (hb.cell (World.block_lt_of_cell? _ _ (hHeld.2.2.2.2.2.1))).trans (hHeld.2.2.2.2.2.1)
                      have HS6_ := (hb.cell (World.block_lt_of_cell? _ _ (hHeld.2.2.2.2.2.2.1))).trans (hHeld.2.2.2.2.2.2.1)
                      have HS7_ := (hb.cell (World.block_lt_of_cell? _ _ (hHeld.2.2.2.2.2.2.2.1))).trans (hHeld.2.2.2.2.2.2.2.1)
                      have HS8_ := (hb.cell (World.block_lt_of_cell? _ _ (hHeld.2.2.2.2.2.2.2.2.1))).trans (hHeld.2.2.2.2.2.2.2.2.1)
                      have HS9_ := (hb.cell (World.block_lt_of_cell? _ _ (hHeld.2.2.2.2.2.2.2.2.2))).trans (hHeld.2.2.2.2.2.2.2.2.2)
                      refine ⟨_, rfl, ?_⟩
                      have n0_ := Aside0.mk (Kd.R_below (by (with_reducible repeat (first | apply Kd.R_alloc | apply Kd.R_drewN | apply Kd.R_drew)); exact HO132.out) hb)
                      have n1_ := Aside0.mk (below_step (by repeat (first | (with_reducible first | exact HB.out | apply below_alloc | apply pw_below_drewN | apply below_drew1) | exact HB.out)) hb)
                      clear HO132
                      clear HB
                      have HO132 := n0_
                      have HB := n1_
                      clear n0_ n1_
                      (try clear hb)
                      (try clear hb2)
                      (try clear hk)
                      (try clear hi)
                      refine hK.out _ _ ⟨HS0_, HS1_, HS2_, HS3_, HS4_, HS5_, HS6_, HS7_, HS8_, HS9_⟩ (fun hHeld => ?_)
                      clear hK K
                      refine norm_ (a' := ?_) ?_ ?_
                      rotate_left
                      · show Act.put _ (some 47) _ = _
                        simp only [Act.put, List.setIfInBounds_toArray, List.set_cons_zero, List.set_cons_succ, i64_w, i32_w]
                        rfl
                      refine pure_ (i := 10) (N := some 48) (v := ?_) (a' := ?_) #[true, true, true, true, true, true, true, true, true, true, true] rfl rfl (any_of HT_.out (by kernel_rfl)) (fun _ _ _ h => h) (Or.inl ⟨by rfl, ?_⟩) ?_ ?_
                      rotate_left
                      · intro w'
                        go_simp
                        with_reducible rfl
                      rotate_left
                      · simp only [Act.put, List.setIfInBounds_toArray, List.set_cons_zero, List.set_cons_succ, i64_w, i32_w]
                        rfl
                      refine done_ (done_of HT_.out (by kernel_rfl)) ?_
                      try go_wp2
                      go_roundg k2
                      case measure => have := HJ2.out; have := HK2.out; omega
                      case rel => exact ⟨(y130), (wrap64 (x6_2 + 1)), (by first | rfl | (simp; done) | (simp [*]; done)), H', ⟨by have := HJ2.out; have := HK2.out; omega⟩, ⟨by (with_reducible repeat (first | apply Kd.R_alloc | apply Kd.R_drewN | apply Kd.R_drew)); exact HO132.out⟩, ⟨by repeat (first | (with_reducible first | exact HB.out | apply below_alloc | apply pw_below_drewN | apply below_drew1) | exact HB.out)⟩⟩
                  · rw [if_neg c12] at H
                    exact absurd H (by simp)
                · rw [if_neg c11] at H
                  exact absurd H (by simp)
              · rw [if_neg c9] at H
                exact absurd H (by simp)
            · rw [if_neg c8] at H
              have c8b0 : decide (x6_2 < (l1.length : Int)) = false := decide_eq_false c8
              clear c8
              replace H := Option.bind_eq_some_iff.mp H
              obtain ⟨⟨t137, t140, t141⟩, A280, H⟩ := H
              replace H : ((secateurref22_Parse.f k2 a0).bind fun bt143 => ((rules_Print.f x5_2).bind fun bt149 => ((secateurref22_Print.f k2 x5_2).bind fun bt151 => ((secateurlaw22_live.f).bind fun t153 => (if t153 = true then (if (t140 == bt143.2.1 && (t141 == bt143.2.2)) = true then ((secateurref22_Same.f t137 bt143.1).bind fun t154 => (if t154 = true then (if bt149.1.toList = bt151.1.toList then (some (bt149.2 == bt151.2)) else (some false)) else (some false))) else (some false)) else (some false)))))) = some r := H
              have A28 := Aside0.mk A280
              clear A280
              replace H := Option.bind_eq_some_iff.mp H
              obtain ⟨⟨t143, t146, t147⟩, A290, H⟩ := H
              replace H : ((rules_Print.f x5_2).bind fun bt149 => ((secateurref22_Print.f k2 x5_2).bind fun bt151 => ((secateurlaw22_live.f).bind fun t153 => (if t153 = true then (if (t140 == t146 && (t141 == t147)) = true then ((secateurref22_Same.f t137 t143).bind fun t154 => (if t154 = true then (if bt149.1.toList = bt151.1.toList then (some (bt149.2 == bt151.2)) else (some false)) else (some false))) else (some false)) else (some false))))) = some r := H
              have A29 := Aside0.mk A290
              clear A290
              replace H := Option.bind_eq_some_iff.mp H
              obtain ⟨⟨t149, t150⟩, A300, H⟩ := H
              replace H : ((secateurref22_Print.f k2 x5_2).bind fun bt151 => ((secateurlaw22_live.f).bind fun t153 => (if t153 = true then (if (t140 == t146 && (t141 == t147)) = true then ((secateurref22_Same.f t137 t143).bind fun t154 => (if t154 = true then (if t149.toList = bt151.1.toList then (some (t150 == bt151.2)) else (some false)) else (some false))) else (some false)) else (some false)))) = some r := H
              have A30 := Aside0.mk A300
              clear A300
              replace H := Option.bind_eq_some_iff.mp H
              obtain ⟨⟨t151, t152⟩, A310, H⟩ := H
              replace H : ((secateurlaw22_live.f).bind fun t153 => (if t153 = true then (if (t140 == t146 && (t141 == t147)) = true then ((secateurref22_Same.f t137 t143).bind fun t154 => (if t154 = true then (if t149.toList = t151.toList then (some (t150 == t152)) else (some false)) else (some false))) else (some false)) else (some false))) = some r := H
              have A31 := Aside0.mk A310
              clear A310
              replace H := Option.bind_eq_some_iff.mp H
              obtain ⟨t153, A320, H⟩ := H
              replace H : (if t153 = true then (if (t140 == t146 && (t141 == t147)) = true then ((secateurref22_Same.f t137 t143).bind fun t154 => (if t154 = true then (if t149.toList = t151.toList then (some (t150 == t152)) else (some false)) else (some false))) else (some false)) else (some false)) = some r := H
              have A32 := Aside0.mk A320
              clear A320
              by_cases c33 : t153 = true
              · subst c33
                have H1 : (if (t140 == t146 && (t141 == t147)) = true then ((secateurref22_Same.f t137 t143).bind fun t154 => (if t154 = true then (if t149.toList = t151.toList then (some (t150 == t152)) else (some false)) else (some false))) else (some false)) = some r := by rw [if_pos rfl] at H; exact H
                clear H
                have H := H1
                clear H1
                by_cases c34 : (t140 == t146 && (t141 == t147)) = true
                · rw [if_pos c34] at H
                  have c34b0 : (t140 == t146 && (t141 == t147)) = true := c34
                  (try (have c34b1 : decide (t140 = t146 && (t141 == t147)) = true := by simpa using c34))
                  (try (have c34b2 : (t140 == t146 && (t141 == t147)) = true := by simpa using c34))
                  clear c34
                  replace H := Option.bind_eq_some_iff.mp H
                  obtain ⟨t154, A350, H⟩ := H
                  replace H : (if t154 = true then (if t149.toList = t151.toList then (some (t150 == t152)) else (some false)) else (some false)) = some r := H
                  have A35 := Aside0.mk A350
                  clear A350
                  by_cases c36 : t154 = true
                  · subst c36
                    have H1 : (if t149.toList = t151.toList then (some (t150 == t152)) else (some false)) = some r := by rw [if_pos rfl] at H; exact H
                    clear H
                    have H := H1
                    clear H1
                    by_cases c37 : t149.toList = t151.toList
                    · rw [if_pos c37] at H
                      have c37b0 : (t149.toList == t151.toList) = true := beq_iff_eq.mpr c37
                      have c37b1 : (t149.toList != t151.toList) = false := bne_eq_false_iff_eq.mpr c37
                      clear c37
                      obtain rfl := Option.some.inj H
                      go_wp2_with (first | ((with_reducible refine gate_callee (f := 52) rfl ?_); refine goesL_ (some 51) rfl rfl Tryd.func52 (by kernel_rfl) rfl #[.string a0] rfl (by (try simp only [List.map_toArray, List.map_cons, List.map_nil]); first | done | rfl | (simp only [List.length_drop, List.length_take]; rfl)) ?_; (with_reducible refine (rules_Parse.calls a0 t137 t140 t141 _ ?side1 A28.out).mono ?_); (case side1 => exact MaxL.below HGMaxL.out (by repeat (first | (with_reducible first | exact HB.out | apply below_alloc | apply pw_below_drewN | apply below_drew1) | exact HB.out))); rintro e w38 ⟨v138, rfl, ho0, hb⟩; refine ⟨_, rfl, ?_⟩; have n0_ := Aside0.mk (Kd.R_elder' (by (with_reducible repeat (first | apply Kd.R_alloc | apply Kd.R_drewN | apply Kd.R_drew)); exact HO_5.out) (Kd.R_base ho0) hb); have n1_ := Aside0.mk (Kd.R_lower (Kd.R_new' ho0 (Kd.R_lt (by (with_reducible repeat (first | apply Kd.R_alloc | apply Kd.R_drewN | apply Kd.R_drew)); exact HO_5.out))) (below_size (by repeat (first | (with_reducible first | exact HB.out | apply below_alloc | apply pw_below_drewN | apply below_drew1) | exact HB.out)))); have n2_ := Aside0.mk (below_step (by repeat (first | (with_reducible first | exact HB.out | apply below_alloc | apply pw_below_drewN | apply below_drew1) | exact HB.out)) hb); clear HO_5; clear HB; have HO_5 := n0_; have HO139 := n1_; have HB := n2_; clear n0_ n1_ n2_; (try clear hb); (try clear hb2); (try clear hk); (try clear hi); (try clear ho0)) | ((with_reducible refine gate_dst (N := 8) rfl ?_); (try (refine gate_guard (by rfl) ?_; dsimp only)); refine box_event ?hg (N := 8) ?hd (cs := #[.int .i64 0, .int .i64 0]) (t := 31) ?hr ?_; (case hd => rfl); (case hg => rfl); (case hr => first | (go_simp; done) | (go_simp; rfl)); intro gb142 hg w39 hbox hb; have n0_ := Aside0.mk (Kd.R_below (by (with_reducible repeat (first | apply Kd.R_alloc | apply Kd.R_drewN | apply Kd.R_drew)); exact HO_5.out) hb); have n1_ := Aside0.mk (Kd.R_below (by (with_reducible repeat (first | apply Kd.R_alloc | apply Kd.R_drewN | apply Kd.R_drew)); exact HO139.out) hb); have n2_ := Aside0.mk (below_step (by repeat (first | (with_reducible first | exact HB.out | apply below_alloc | apply pw_below_drewN | apply below_drew1) | exact HB.out)) hb); have n3_ := Aside0.mk (hbox); have n4_ := Aside0.mk ((by rw [hg]; exact (below_size (by repeat (first | (with_reducible first | exact HB.out | apply below_alloc | apply pw_below_drewN | apply below_drew1) | exact HB.out))) : w.heap.size ≤ gb142)); have n5_ := Aside0.mk ((by rw [hg]; exact (below_size (by repeat (first | (with_reducible first | exact HB.out | apply below_alloc | apply pw_below_drewN | apply below_drew1) | exact HB.out))) : w.heap.size ≤ gb142)); clear HO_5; clear HO139; clear HB; have HO_5 := n0_; have HO139 := n1_; have HB := n2_; have BK142 := n3_; have GW142 := n4_; have GE142 := n5_; clear n0_ n1_ n2_ n3_ n4_ n5_; clear hb hbox hg; have hcz40_0 : w39.cell? ⟨gb142, 0, none⟩ = some (.int .i64 0) := (blk_cell BK142.out 0).trans rfl; have hcz40_1 : w39.cell? ⟨gb142, 1, none⟩ = some (.int .i64 0) := (blk_cell BK142.out 1).trans rfl; have hfz40_0 := blk_frozen BK142.out 0; have hfz40_1 := blk_frozen BK142.out 1) | ((with_reducible refine gate_callee (f := 53) rfl ?_); refine goesL_ (some 56) rfl rfl Tryd.func53 (by kernel_rfl) rfl #[.string a0] rfl (by (try simp only [List.map_toArray, List.map_cons, List.map_nil]); first | done | rfl | (simp only [List.length_drop, List.length_take]; rfl)) ?_; (with_reducible refine (secateurref22_Parse.calls k2 a0 t143 t146 t147 _ A29.out).mono ?_); rintro e w41 ⟨v144, rfl, ho0, hb⟩; refine ⟨_, rfl, ?_⟩; have n0_ := Aside0.mk (Kd.R_elder' (by (with_reducible repeat (first | apply Kd.R_alloc | apply Kd.R_drewN | apply Kd.R_drew)); exact (Kd.R_mono (Kd.R_far (p := ⟨gb142, 1, none⟩) (Kd.R_far (p := ⟨gb142, 0, none⟩) (Kd.R_types HO_5.out BK142.out (by decide)) (fun _ hk => hk.2) (.int .i64 t140)) (fun _ hk => hk.2) (.int .i64 t141)) (fun _ h_ => h_.1))) (Kd.R_base ho0) hb); have n1_ := Aside0.mk (Kd.R_elder' (by (with_reducible repeat (first | apply Kd.R_alloc | apply Kd.R_drewN | apply Kd.R_drew)); exact (Kd.R_mono (Kd.R_far (p := ⟨gb142, 1, none⟩) (Kd.R_far (p := ⟨gb142, 0, none⟩) (Kd.R_types HO139.out BK142.out (by decide)) (fun _ hk => hk.2) (.int .i64 t140)) (fun _ hk => hk.2) (.int .i64 t141)) (fun _ h_ => h_.1))) (Kd.R_base ho0) hb); have n2_ := Aside0.mk (Kd.R_lower (Kd.R_new' (Kd.R_new' ho0 (Kd.R_lt (by (with_reducible repeat (first | apply Kd.R_alloc | apply Kd.R_drewN | apply Kd.R_drew)); exact (Kd.R_mono (Kd.R_far (p := ⟨gb142, 1, none⟩) (Kd.R_far (p := ⟨gb142, 0, none⟩) (Kd.R_types HO_5.out BK142.out (by decide)) (fun _ hk => hk.2) (.int .i64 t140)) (fun _ hk => hk.2) (.int .i64 t141)) (fun _ h_ => h_.1))))) (Kd.R_lt (by (with_reducible repeat (first | apply Kd.R_alloc | apply Kd.R_drewN | apply Kd.R_drew)); exact (Kd.R_mono (Kd.R_far (p := ⟨gb142, 1, none⟩) (Kd.R_far (p := ⟨gb142, 0, none⟩) (Kd.R_types HO139.out BK142.out (by decide)) (fun _ hk => hk.2) (.int .i64 t140)) (fun _ hk => hk.2) (.int .i64 t141)) (fun _ h_ => h_.1))))) (below_size (by repeat (first | (with_reducible first | exact HB.out | apply below_alloc | apply pw_below_drewN | apply below_drew1 | refine below_set ?_ GE142.out) | exact HB.out)))); have n3_ := Aside0.mk (blk_below (g := gb142) (o := .cells #[.int .i64 t140, .int .i64 t141] 31 (0, 0)) (by (with_reducible repeat (first | refine blk_drewN ?_ _ | refine blk_drew ?_ | refine blk_alloc ?_ _)); refine blk_put (cs := #[.int .i64 t140, .int .i64 0]) ?_ 1 _ rfl; (with_reducible repeat (first | refine blk_drewN ?_ _ | refine blk_drew ?_ | refine blk_alloc ?_ _)); refine blk_put (cs := #[.int .i64 0, .int .i64 0]) ?_ 0 _ rfl; (with_reducible repeat (first | refine blk_drewN ?_ _ | refine blk_drew ?_ | refine blk_alloc ?_ _)); exact BK142.out) hb); have n4_ := Aside0.mk (below_step (by repeat (first | (with_reducible first | exact HB.out | apply below_alloc | apply pw_below_drewN | apply below_drew1 | refine below_set ?_ GE142.out) | exact HB.out)) hb); clear HO_5; clear HO139; clear BK142; clear HB; have HO_5 := n0_; have HO139 := n1_; have HO145 := n2_; have BK142 := n3_; have HB := n4_; clear n0_ n1_ n2_ n3_ n4_; (try clear hb); (try clear hb2); (try clear hk); (try clear hi); (try clear ho0)) | ((with_reducible refine gate_dst (N := 10) rfl ?_); (try (refine gate_guard (by rfl) ?_; dsimp only)); refine box_event ?hg (N := 10) ?hd (cs := #[.int .i64 0, .int .i64 0]) (t := 31) ?hr ?_; (case hd => rfl); (case hg => rfl); (case hr => first | (go_simp; done) | (go_simp; rfl)); intro gb148 hg w42 hbox hb; have n0_ := Aside0.mk (Kd.R_below (by (with_reducible repeat (first | apply Kd.R_alloc | apply Kd.R_drewN | apply Kd.R_drew)); exact HO_5.out) hb); have n1_ := Aside0.mk (Kd.R_below (by (with_reducible repeat (first | apply Kd.R_alloc | apply Kd.R_drewN | apply Kd.R_drew)); exact HO139.out) hb); have n2_ := Aside0.mk (Kd.R_below (by (with_reducible repeat (first | apply Kd.R_alloc | apply Kd.R_drewN | apply Kd.R_drew)); exact HO145.out) hb); have n3_ := Aside0.mk (blk_below (g := gb142) (o := .cells #[.int .i64 t140, .int .i64 t141] 31 (0, 0)) (by (with_reducible repeat (first | refine blk_drewN ?_ _ | refine blk_drew ?_ | refine blk_alloc ?_ _)); exact BK142.out) hb); have n4_ := Aside0.mk (below_step (by repeat (first | (with_reducible first | exact HB.out | apply below_alloc | apply pw_below_drewN | apply below_drew1 | refine below_set ?_ GE142.out) | exact HB.out)) hb); have n5_ := Aside0.mk (hbox); have n6_ := Aside0.mk ((by rw [hg]; exact (below_size (by repeat (first | (with_reducible first | exact HB.out | apply below_alloc | apply pw_below_drewN | apply below_drew1 | refine below_set ?_ GE142.out) | exact HB.out))) : w.heap.size ≤ gb148)); have n7_ := Aside0.mk ((by rw [hg]; exact (below_size (by repeat (first | (with_reducible first | exact HB.out | apply below_alloc | apply pw_below_drewN | apply below_drew1 | refine below_set ?_ GE142.out) | exact HB.out))) : w.heap.size ≤ gb148)); have n8_ := Aside0.mk ((by rw [hg]; exact Nat.ne_of_lt (blk_lt (g := gb142) (o := .cells #[.int .i64 t140, .int .i64 t141] 31 (0, 0)) (by (with_reducible repeat (first | refine blk_drewN ?_ _ | refine blk_drew ?_ | refine blk_alloc ?_ _)); exact BK142.out)) : gb142 ≠ gb148)); have n9_ := Aside0.mk ((by rw [hg]; exact Nat.ne_of_gt (blk_lt (g := gb142) (o := .cells #[.int .i64 t140, .int .i64 t141] 31 (0, 0)) (by (with_reducible repeat (first | refine blk_drewN ?_ _ | refine blk_drew ?_ | refine blk_alloc ?_ _)); exact BK142.out)) : gb148 ≠ gb142)); clear HO_5; clear HO139; clear HO145; clear BK142; clear HB; have HO_5 := n0_; have HO139 := n1_; have HO145 := n2_; have BK142 := n3_; have HB := n4_; have BK148 := n5_; have GW148 := n6_; have GE148 := n7_; have NB142_148 := n8_; have NB148_142 := n9_; clear n0_ n1_ n2_ n3_ n4_ n5_ n6_ n7_ n8_ n9_; clear hb hbox hg; have hnb43 := NB148_142.out; have hnc43 := NB142_148.out; have hcz44_0 : w42.cell? ⟨gb148, 0, none⟩ = some (.int .i64 0) := (blk_cell BK148.out 0).trans rfl; have hcz44_1 : w42.cell? ⟨gb148, 1, none⟩ = some (.int .i64 0) := (blk_cell BK148.out 1).trans rfl; have hfz44_0 := blk_frozen BK148.out 0; have hfz44_1 := blk_frozen BK148.out 1; obtain ⟨Ao45, co45, eo45⟩ := Kd.R_slice HO_5.out; subst eo45) | ((with_reducible refine gate_callee (f := 54) rfl ?_); refine goesL_ (some 61) rfl rfl Tryd.func54 (by kernel_rfl) rfl #[.slice Ao45 x5_2.length co45] rfl (by (try simp only [List.map_toArray, List.map_cons, List.map_nil]); first | done | rfl | (simp only [List.length_drop, List.length_take]; rfl)) ?_; (with_reducible refine (rules_Print.calls _ _ x5_2 t149 t150 _ ?side1 ?side2 A30.out).mono ?_); (case side1 => refine (Kd.R_reads' (e := 66) (base := w.heap.size) (ok := fun k_ => ((True ∧ some k_ ≠ (v138 : Value).ownBlock) ∧ some k_ ≠ (v144 : Value).ownBlock)) (n := x5_2.length) (c := co45) ?_).2.2; exact (by (with_reducible repeat (first | apply Kd.R_alloc | apply Kd.R_drewN | apply Kd.R_drew)); exact (Kd.R_mono (Kd.R_far (p := ⟨gb148, 1, none⟩) (Kd.R_far (p := ⟨gb148, 0, none⟩) (Kd.R_types HO_5.out BK148.out (by decide)) (fun _ hk => hk.2) (.int .i64 t146)) (fun _ hk => hk.2) (.int .i64 t147)) (fun _ h_ => h_.1)))); (case side2 => exact (Kd.R_reads' HO_5.out).2.1); rintro e w46 ⟨rfl, hb⟩; refine ⟨_, rfl, ?_⟩; have n0_ := Aside0.mk (Kd.R_below (by (with_reducible repeat (first | apply Kd.R_alloc | apply Kd.R_drewN | apply Kd.R_drew)); exact (Kd.R_mono (Kd.R_far (p := ⟨gb148, 1, none⟩) (Kd.R_far (p := ⟨gb148, 0, none⟩) (Kd.R_types HO_5.out BK148.out (by decide)) (fun _ hk => hk.2) (.int .i64 t146)) (fun _ hk => hk.2) (.int .i64 t147)) (fun _ h_ => h_.1))) hb); have n1_ := Aside0.mk (Kd.R_below (by (with_reducible repeat (first | apply Kd.R_alloc | apply Kd.R_drewN | apply Kd.R_drew)); exact (Kd.R_mono (Kd.R_far (p := ⟨gb148, 1, none⟩) (Kd.R_far (p := ⟨gb148, 0, none⟩) (Kd.R_types HO139.out BK148.out (by decide)) (fun _ hk => hk.2) (.int .i64 t146)) (fun _ hk => hk.2) (.int .i64 t147)) (fun _ h_ => h_.1))) hb); have n2_ := Aside0.mk (Kd.R_below (by (with_reducible repeat (first | apply Kd.R_alloc | apply Kd.R_drewN | apply Kd.R_drew)); exact (Kd.R_mono (Kd.R_far (p := ⟨gb148, 1, none⟩) (Kd.R_far (p := ⟨gb148, 0, none⟩) (Kd.R_types HO145.out BK148.out (by decide)) (fun _ hk => hk.2) (.int .i64 t146)) (fun _ hk => hk.2) (.int .i64 t147)) (fun _ h_ => h_.1))) hb); have n3_ := Aside0.mk (blk_below (g := gb142) (o := .cells #[.int .i64 t140, .int .i64 t141] 31 (0, 0)) (by (with_reducible repeat (first | refine blk_drewN ?_ _ | refine blk_drew ?_ | refine blk_alloc ?_ _)); refine blk_far ?_ NB142_148.out _; (with_reducible repeat (first | refine blk_drewN ?_ _ | refine blk_drew ?_ | refine blk_alloc ?_ _)); refine blk_far ?_ NB142_148.out _; (with_reducible repeat (first | refine blk_drewN ?_ _ | refine blk_drew ?_ | refine blk_alloc ?_ _)); exact BK142.out) hb); have n4_ := Aside0.mk (blk_below (g := gb148) (o := .cells #[.int .i64 t146, .int .i64 t147] 31 (0, 0)) (by (with_reducible repeat (first | refine blk_drewN ?_ _ | refine blk_drew ?_ | refine blk_alloc ?_ _)); refine blk_put (cs := #[.int .i64 t146, .int .i64 0]) ?_ 1 _ rfl; (with_reducible repeat (first | refine blk_drewN ?_ _ | refine blk_drew ?_ | refine blk_alloc ?_ _)); refine blk_put (cs := #[.int .i64 0, .int .i64 0]) ?_ 0 _ rfl; (with_reducible repeat (first | refine blk_drewN ?_ _ | refine blk_drew ?_ | refine blk_alloc ?_ _)); exact BK148.out) hb); have n5_ := Aside0.mk (below_step (by repeat (first | (with_reducible first | exact HB.out | apply below_alloc | apply pw_below_drewN | apply below_drew1 | refine below_set ?_ GE142.out | refine below_set ?_ GE148.out) | exact HB.out)) hb); clear HO_5; clear HO139; clear HO145; clear BK142; clear BK148; clear HB; have HO_5 := n0_; have HO139 := n1_; have HO145 := n2_; have BK142 := n3_; have BK148 := n4_; have HB := n5_; clear n0_ n1_ n2_ n3_ n4_ n5_; (try clear hb); (try clear hb2); (try clear hk); (try clear hi)) | ((with_reducible refine gate_callee (f := 55) rfl ?_); refine goesL_ (some 66) rfl rfl Tryd.func55 (by kernel_rfl) rfl #[.slice Ao45 x5_2.length co45] rfl (by (try simp only [List.map_toArray, List.map_cons, List.map_nil]); first | done | rfl | (simp only [List.length_drop, List.length_take]; rfl)) ?_; (with_reducible refine (secateurref22_Print.calls k2 _ _ x5_2 t151 t152 _ ?side1 ?side2 A31.out).mono ?_); (case side1 => repeat (first | exact (Kd.R_reads' HO_5.out).2.2 | (with_reducible refine Kd.C_alloc ?_ _) | (with_reducible refine Kd.C_drewN ?_ _) | (with_reducible refine Kd.C_drew ?_))); (case side2 => exact (Kd.R_reads' HO_5.out).2.1); rintro e w47 ⟨rfl, hb⟩; refine ⟨_, rfl, ?_⟩; have n0_ := Aside0.mk (Kd.R_below (by (with_reducible repeat (first | apply Kd.R_alloc | apply Kd.R_drewN | apply Kd.R_drew)); exact HO_5.out) hb); have n1_ := Aside0.mk (Kd.R_below (by (with_reducible repeat (first | apply Kd.R_alloc | apply Kd.R_drewN | apply Kd.R_drew)); exact HO139.out) hb); have n2_ := Aside0.mk (Kd.R_below (by (with_reducible repeat (first | apply Kd.R_alloc | apply Kd.R_drewN | apply Kd.R_drew)); exact HO145.out) hb); have n3_ := Aside0.mk (blk_below (g := gb142) (o := .cells #[.int .i64 t140, .int .i64 t141] 31 (0, 0)) (by (with_reducible repeat (first | refine blk_drewN ?_ _ | refine blk_drew ?_ | refine blk_alloc ?_ _)); exact BK142.out) hb); have n4_ := Aside0.mk (blk_below (g := gb148) (o := .cells #[.int .i64 t146, .int .i64 t147] 31 (0, 0)) (by (with_reducible repeat (first | refine blk_drewN ?_ _ | refine blk_drew ?_ | refine blk_alloc ?_ _)); exact BK148.out) hb); have n5_ := Aside0.mk (below_step (by repeat (first | (with_reducible first | exact HB.out | apply below_alloc | apply pw_below_drewN | apply below_drew1 | refine below_set ?_ GE142.out | refine below_set ?_ GE148.out) | exact HB.out)) hb); clear HO_5; clear HO139; clear HO145; clear BK142; clear BK148; clear HB; have HO_5 := n0_; have HO139 := n1_; have HO145 := n2_; have BK142 := n3_; have BK148 := n4_; have HB := n5_; clear n0_ n1_ n2_ n3_ n4_ n5_; (try clear hb); (try clear hb2); (try clear hk); (try clear hi)) | ((with_reducible refine gate_callee (f := 48) rfl ?_); refine goesL_ (some 69) rfl rfl Tryd.func48 (by kernel_rfl) rfl #[] rfl (by (try simp only [List.map_toArray, List.map_cons, List.map_nil]); first | done | rfl | (simp only [List.length_drop, List.length_take]; rfl)) ?_; (with_reducible refine (secateurlaw22_live.calls  true _ ?side1 A32.out).mono ?_); (case side1 => exact MaxL.below HGMaxL.out (by repeat (first | (with_reducible first | exact HB.out | apply below_alloc | apply pw_below_drewN | apply below_drew1 | refine below_set ?_ GE142.out | refine below_set ?_ GE148.out) | exact HB.out))); rintro e w48 ⟨rfl, hb⟩; refine ⟨_, rfl, ?_⟩; have n0_ := Aside0.mk (Kd.R_below (by (with_reducible repeat (first | apply Kd.R_alloc | apply Kd.R_drewN | apply Kd.R_drew)); exact HO_5.out) hb); have n1_ := Aside0.mk (Kd.R_below (by (with_reducible repeat (first | apply Kd.R_alloc | apply Kd.R_drewN | apply Kd.R_drew)); exact HO139.out) hb); have n2_ := Aside0.mk (Kd.R_below (by (with_reducible repeat (first | apply Kd.R_alloc | apply Kd.R_drewN | apply Kd.R_drew)); exact HO145.out) hb); have n3_ := Aside0.mk (blk_below (g := gb142) (o := .cells #[.int .i64 t140, .int .i64 t141] 31 (0, 0)) (by (with_reducible repeat (first | refine blk_drewN ?_ _ | refine blk_drew ?_ | refine blk_alloc ?_ _)); exact BK142.out) hb); have n4_ := Aside0.mk (blk_below (g := gb148) (o := .cells #[.int .i64 t146, .int .i64 t147] 31 (0, 0)) (by (with_reducible repeat (first | refine blk_drewN ?_ _ | refine blk_drew ?_ | refine blk_alloc ?_ _)); exact BK148.out) hb); have n5_ := Aside0.mk (below_step (by repeat (first | (with_reducible first | exact HB.out | apply below_alloc | apply pw_below_drewN | apply below_drew1 | refine below_set ?_ GE142.out | refine below_set ?_ GE148.out) | exact HB.out)) hb); clear HO_5; clear HO139; clear HO145; clear BK142; clear BK148; clear HB; have HO_5 := n0_; have HO139 := n1_; have HO145 := n2_; have BK142 := n3_; have BK148 := n4_; have HB := n5_; clear n0_ n1_ n2_ n3_ n4_ n5_; (try clear hb); (try clear hb2); (try clear hk); (try clear hi); have hcz49_0 : w48.cell? ⟨gb142, 0, none⟩ = some (.int .i64 t140) := (blk_cell BK142.out 0).trans rfl; have hcz49_1 : w48.cell? ⟨gb142, 1, none⟩ = some (.int .i64 t141) := (blk_cell BK142.out 1).trans rfl; have hfz49_0 := blk_frozen BK142.out 0; have hfz49_1 := blk_frozen BK142.out 1; have hcz50_0 : w48.cell? ⟨gb148, 0, none⟩ = some (.int .i64 t146) := (blk_cell BK148.out 0).trans rfl; have hcz50_1 : w48.cell? ⟨gb148, 1, none⟩ = some (.int .i64 t147) := (blk_cell BK148.out 1).trans rfl; have hfz50_0 := blk_frozen BK148.out 0; have hfz50_1 := blk_frozen BK148.out 1; obtain ⟨Ao51, co51, eo51⟩ := Kd.R_slice HO139.out; subst eo51; obtain ⟨Ao52, co52, eo52⟩ := Kd.R_slice HO145.out; subst eo52) | (go_at_call 56; (with_reducible refine (secateurref22_Same.calls _ _ t137 _ _ t143 true _ ?side1 ?side2 ?side3 ?side4 A35.out).mono ?_); (case side1 => repeat (first | exact (Kd.R_reads' HO139.out).2.2 | (with_reducible refine Kd.C_alloc ?_ _) | (with_reducible refine Kd.C_drewN ?_ _) | (with_reducible refine Kd.C_drew ?_))); (case side2 => exact (Kd.R_reads' HO139.out).2.1); (case side3 => repeat (first | exact (Kd.R_reads' HO145.out).2.2 | (with_reducible refine Kd.C_alloc ?_ _) | (with_reducible refine Kd.C_drewN ?_ _) | (with_reducible refine Kd.C_drew ?_))); (case side4 => exact (Kd.R_reads' HO145.out).2.1); rintro e w' ⟨rfl, ⟨nd, rfl⟩⟩))
                      go_ret
                      exact ⟨by first | rfl | (simp [errW_none, errW_some] <;> rfl) | (simp [*, errW_none, errW_some] <;> rfl), by repeat (first | (with_reducible first | exact HB.out | apply below_alloc | apply pw_below_drewN | apply below_drew1 | refine below_set ?_ GE142.out | refine below_set ?_ GE148.out) | exact HB.out)⟩
                    · rw [if_neg c37] at H
                      exact absurd ((Option.some.inj H).trans HRT.out) (by decide)
                  · replace c36 := Bool.eq_false_iff.mpr c36
                    subst c36
                    have H1 : (some false) = some r := by rw [if_neg (show ¬ (false = true) by decide)] at H; exact H
                    exact absurd ((Option.some.inj H1).trans HRT.out) (by decide)
                · rw [if_neg c34] at H
                  exact absurd ((Option.some.inj H).trans HRT.out) (by decide)
              · replace c33 := Bool.eq_false_iff.mpr c33
                subst c33
                have H1 : (some false) = some r := by rw [if_neg (show ¬ (false = true) by decide)] at H; exact H
                exact absurd ((Option.some.inj H1).trans HRT.out) (by decide)
end Go.Proofs.YtmlbfepibfobaaaDoor.PRulesTexts
end

section
namespace Go.Proofs.YtmlbfepibfobaaaDoor.PRulesTexts
open Go.RowKit Go.Proofs.YtmlbfepibfobaaaDoorW.PrintWords Go.Proofs.YtmlbfepibfobaaaDoorW.PrintLast Go.Proofs.YtmlbfepibfobaaaDoorW.PrintMore Go.Proofs.YtmlbfepibfobaaaDoor.Hand
attribute [local go_sem] max2_int min2_int max_two min_two max_three min_three max_four min_four   -- for this text's walks alone
set_option linter.unusedVariables false
set_option linter.unusedSimpArgs false
end Go.Proofs.YtmlbfepibfobaaaDoor.PRulesTexts
end
