import Derived.Test.YtmlbfepibfobaaaDoorMgRs0
import Derived.Laws.RangeString
import Derived.Laws.RangeAny
import Derived.RangeFuncBound
import Derived.RangeFuncNested
import Derived.RangeFuncCalls
import Derived.RangeFuncLeaves
import Derived.Shelf.Abstract
import Derived.Shelf.RegionOpen
import Derived.WalkKit
import Derived.OwnWalkIn
import Derived.TacticsInMore
import Derived.LoopNIn
import Derived.LoopIn
import Derived.Test.YtmlbfepibfobaaaDoorProg
import Derived.RangeFuncBox
import Derived.Maps.OwnIn
import Derived.Maps.AppendAt
import Derived.BigRegionIn
import Derived.IntWalk
import Derived.Shelf.Strings.BuilderF
import Derived.Lib.Hide
import Derived.Below
import Derived.Deep.Draws
import Derived.Deep.AppendLies
import Derived.OwnWalk
import Derived.Laws.BytesArg
import Derived.Laws.MakeOwn
import Derived.Laws.OwnMore
import Derived.Deep.OwnRows
import Derived.Tactics
import Derived.Lib.ConvBytes
import Derived.Laws.Slices
import Derived.KernelRfl
import Derived.RowKit3
import Derived.Deep.LoopGhost
import Derived.Deep.QuietTactic
import Derived.BigQuiet
import Derived.WideLaws
import Derived.Deep.DeepCutAuto
import Derived.Deep.CutBlock
import Derived.Deep.RegionHeld3
import Derived.Laws.Rows
import Derived.Lib.AppendStr
import Derived.ArgAppend
import Derived.Laws.IdiomCopy
import Derived.OrdersHeld
import Derived.Laws.BitsLemmas
import Derived.RowKit
import Derived.Test.YtmlbfepibfobaaaDoorWWords
import Derived.Test.YtmlbfepibfobaaaDoorWLast
import Derived.Test.YtmlbfepibfobaaaDoorWTab
import Derived.Test.YtmlbfepibfobaaaDoorWFour
import Derived.Test.YtmlbfepibfobaaaDoorWQPut
import Derived.Test.YtmlbfepibfobaaaDoorWApart
import Derived.Test.YtmlbfepibfobaaaDoorWArr
import Derived.Test.YtmlbfepibfobaaaDoorWZeros
import Derived.Test.YtmlbfepibfobaaaDoorWFoot
import Derived.Test.YtmlbfepibfobaaaDoorWKept
import Derived.Test.YtmlbfepibfobaaaDoorWShare
import Derived.Test.YtmlbfepibfobaaaDoorWN
import Derived.Test.YtmlbfepibfobaaaDoorWFootNe
import Derived.Test.YtmlbfepibfobaaaDoorWAt
import Derived.Test.YtmlbfepibfobaaaDoorWEqStruct
import Derived.Test.YtmlbfepibfobaaaDoorWRepsOne
import Derived.Test.YtmlbfepibfobaaaDoorWInv
import Derived.Test.YtmlbfepibfobaaaDoorWInvWords
import Derived.Test.YtmlbfepibfobaaaDoorWGuard
import Derived.Test.YtmlbfepibfobaaaDoorWNEv
import Derived.Test.YtmlbfepibfobaaaDoorWMore
section
-- Written by this session's program layer.py (the kit's print, turned), not by hand.
namespace Go.Proofs.YtmlbfepibfobaaaDoor.Q5
open Go.RowKit Go.Proofs.YtmlbfepibfobaaaDoorW.PrintWords Go.Proofs.YtmlbfepibfobaaaDoorW.PrintLast Go.Proofs.YtmlbfepibfobaaaDoorW.PrintMore Go.Proofs.YtmlbfepibfobaaaDoor.Hand
attribute [local go_sem] max2_int min2_int max_two min_two max_three min_three max_four min_four   -- for this text's walks alone
set_option linter.unusedVariables false
set_option linter.unusedSimpArgs false

-- BY HAND: function 98 (word_Class)

-- BY HAND: function 99 (word_Name)

-- BY HAND: function 123 (strings_LastIndexByte)

/-! ### word_Split: function 96 -/
def word_Split.f (a0 : ByteArray) : Option (ByteArray × ByteArray × Bool) := (strings_LastIndexByte.f a0 46).bind fun t101 => (if t101 < 0 then (some ((⟨#[]⟩ : ByteArray), (⟨#[]⟩ : ByteArray), false)) else (if 0 ≤ t101 then (if t101 ≤ (a0.size : Int) then ((word_Class.f (a0.extract 0 (t101 : Int).toNat)).bind fun t102 => (if t102 = true then (if 0 ≤ (wrap64 (t101 + 1)) then (if (wrap64 (t101 + 1)) ≤ (a0.size : Int) then ((word_Name.f (a0.extract ((wrap64 (t101 + 1)) : Int).toNat a0.size)).bind fun t103 => (if t103 = true then (some (a0.extract 0 (t101 : Int).toNat, a0.extract ((wrap64 (t101 + 1)) : Int).toNat a0.size, true)) else (some ((⟨#[]⟩ : ByteArray), (⟨#[]⟩ : ByteArray), false)))) else (none)) else (none)) else (some ((⟨#[]⟩ : ByteArray), (⟨#[]⟩ : ByteArray), false)))) else (none)) else (none)))
set_option maxHeartbeats 8000000 in
set_option maxRecDepth 100000 in
theorem word_Split.calls (a0 : ByteArray) (r1 : ByteArray) (r2 : ByteArray) (r3 : Bool) (w : World) (h : word_Split.f a0 = some (r1, r2, r3)) :
    Calls Tryd.prog 96 #[.string a0] w fun e w' => e = .returned (.tuple #[.string r1, .string r2, .bool r3]) ∧ Drawn0 w w' := by
  have H : ((strings_LastIndexByte.f a0 46).bind fun t101 => (if t101 < 0 then (some ((⟨#[]⟩ : ByteArray), (⟨#[]⟩ : ByteArray), false)) else (if 0 ≤ t101 then (if t101 ≤ (a0.size : Int) then ((word_Class.f (a0.extract 0 (t101 : Int).toNat)).bind fun t102 => (if t102 = true then (if 0 ≤ (wrap64 (t101 + 1)) then (if (wrap64 (t101 + 1)) ≤ (a0.size : Int) then ((word_Name.f (a0.extract ((wrap64 (t101 + 1)) : Int).toNat a0.size)).bind fun t103 => (if t103 = true then (some (a0.extract 0 (t101 : Int).toNat, a0.extract ((wrap64 (t101 + 1)) : Int).toNat a0.size, true)) else (some ((⟨#[]⟩ : ByteArray), (⟨#[]⟩ : ByteArray), false)))) else (none)) else (none)) else (some ((⟨#[]⟩ : ByteArray), (⟨#[]⟩ : ByteArray), false)))) else (none)) else (none)))) = some (r1, r2, r3) := h
  clear h
  replace H := Option.bind_eq_some_iff.mp H
  obtain ⟨t101, A20, H⟩ := H
  replace H : (if t101 < 0 then (some ((⟨#[]⟩ : ByteArray), (⟨#[]⟩ : ByteArray), false)) else (if 0 ≤ t101 then (if t101 ≤ (a0.size : Int) then ((word_Class.f (a0.extract 0 (t101 : Int).toNat)).bind fun t102 => (if t102 = true then (if 0 ≤ (wrap64 (t101 + 1)) then (if (wrap64 (t101 + 1)) ≤ (a0.size : Int) then ((word_Name.f (a0.extract ((wrap64 (t101 + 1)) : Int).toNat a0.size)).bind fun t103 => (if t103 = true then (some (a0.extract 0 (t101 : Int).toNat, a0.extract ((wrap64 (t101 + 1)) : Int).toNat a0.size, true)) else (some ((⟨#[]⟩ : ByteArray), (⟨#[]⟩ : ByteArray), false)))) else (none)) else (none)) else (some ((⟨#[]⟩ : ByteArray), (⟨#[]⟩ : ByteArray), false)))) else (none)) else (none))) = some (r1, r2, r3) := H
  have A2 := Aside0.mk A20
  clear A20
  by_cases c3 : t101 < 0
  · rw [if_pos c3] at H
    have c3b0 : decide (t101 < 0) = true := decide_eq_true c3
    clear c3
    simp only [Option.some.injEq, Prod.mk.injEq] at H
    obtain ⟨rfl, rfl, rfl⟩ := H
    go_enter Tryd.func96, Tryd.ntmps96
    go_wp2_with (first | (go_at_call 123; (with_reducible refine (strings_LastIndexByte.calls a0 46 t101 _ A2.out).mono ?_); rintro e w' ⟨rfl, ⟨nd, rfl⟩⟩; (try first | exact ⟨rfl, _, World.drewN_drewN _ _ _⟩ | exact ⟨rfl, _, Eq.trans (World.drewN_drewN _ _ _) (congrArg (World.drewN _) (Nat.add_assoc _ _ _))⟩)))
    repeat (go_quiet (first | (go_at_call 123; (with_reducible refine (strings_LastIndexByte.calls a0 46 t101 _ A2.out).mono ?_); rintro e w' ⟨rfl, ⟨nd, rfl⟩⟩; (try first | exact ⟨rfl, _, World.drewN_drewN _ _ _⟩ | exact ⟨rfl, _, Eq.trans (World.drewN_drewN _ _ _) (congrArg (World.drewN _) (Nat.add_assoc _ _ _))⟩))); try go_wp2_with (first | (go_at_call 123; (with_reducible refine (strings_LastIndexByte.calls a0 46 t101 _ A2.out).mono ?_); rintro e w' ⟨rfl, ⟨nd, rfl⟩⟩; (try first | exact ⟨rfl, _, World.drewN_drewN _ _ _⟩ | exact ⟨rfl, _, Eq.trans (World.drewN_drewN _ _ _) (congrArg (World.drewN _) (Nat.add_assoc _ _ _))⟩))))
    go_ret3
    exact ⟨by first | rfl | (simp; done) | (simp [*]; done), by repeat (first | exact Drawn0.refl _ | apply Drawn0.step)⟩
  · rw [if_neg c3] at H
    have c3b0 : decide (t101 < 0) = false := decide_eq_false c3
    clear c3
    by_cases c4 : 0 ≤ t101
    · rw [if_pos c4] at H
      have c4b0 := eq_true c4
      have c4b1 : decide (0 ≤ t101) = true := decide_eq_true c4
      clear c4
      by_cases c5 : t101 ≤ (a0.size : Int)
      · rw [if_pos c5] at H
        have c5b0 := eq_true c5
        have c5b1 : decide (t101 ≤ (a0.size : Int)) = true := decide_eq_true c5
        clear c5
        replace H := Option.bind_eq_some_iff.mp H
        obtain ⟨t102, A60, H⟩ := H
        replace H : (if t102 = true then (if 0 ≤ (wrap64 (t101 + 1)) then (if (wrap64 (t101 + 1)) ≤ (a0.size : Int) then ((word_Name.f (a0.extract ((wrap64 (t101 + 1)) : Int).toNat a0.size)).bind fun t103 => (if t103 = true then (some (a0.extract 0 (t101 : Int).toNat, a0.extract ((wrap64 (t101 + 1)) : Int).toNat a0.size, true)) else (some ((⟨#[]⟩ : ByteArray), (⟨#[]⟩ : ByteArray), false)))) else (none)) else (none)) else (some ((⟨#[]⟩ : ByteArray), (⟨#[]⟩ : ByteArray), false))) = some (r1, r2, r3) := H
        have A6 := Aside0.mk A60
        clear A60
        by_cases c7 : t102 = true
        · subst c7
          have H1 : (if 0 ≤ (wrap64 (t101 + 1)) then (if (wrap64 (t101 + 1)) ≤ (a0.size : Int) then ((word_Name.f (a0.extract ((wrap64 (t101 + 1)) : Int).toNat a0.size)).bind fun t103 => (if t103 = true then (some (a0.extract 0 (t101 : Int).toNat, a0.extract ((wrap64 (t101 + 1)) : Int).toNat a0.size, true)) else (some ((⟨#[]⟩ : ByteArray), (⟨#[]⟩ : ByteArray), false)))) else (none)) else (none)) = some (r1, r2, r3) := by rw [if_pos rfl] at H; exact H
          clear H
          have H := H1
          clear H1
          obtain ⟨ji8, hji8⟩ : ∃ j_ : Int, (wrap64 (t101 + 1)) = j_ := ⟨_, rfl⟩
          replace H : (if 0 ≤ (ji8) then (if (ji8) ≤ (a0.size : Int) then ((word_Name.f (a0.extract ((ji8) : Int).toNat a0.size)).bind fun t103 => (if t103 = true then (some (a0.extract 0 (t101 : Int).toNat, a0.extract ((ji8) : Int).toNat a0.size, true)) else (some ((⟨#[]⟩ : ByteArray), (⟨#[]⟩ : ByteArray), false)))) else (none)) else (none)) = some (r1, r2, r3) := by first | (rw [hji8] at H; exact H) | (simp only [hji8] at H ⊢; exact H)
          (try rw [hji8] at A2)
          (try rw [hji8] at A6)
          have hji8w : (IntKind.i64.wrap (t101 + 1)) = ji8 := (i64_w _).trans hji8
          by_cases c9 : 0 ≤ (ji8)
          · rw [if_pos c9] at H
            have c9b0 := eq_true c9
            have c9b1 : decide (0 ≤ (ji8)) = true := decide_eq_true c9
            clear c9
            by_cases c10 : (ji8) ≤ (a0.size : Int)
            · rw [if_pos c10] at H
              have c10b0 := eq_true c10
              have c10b1 : decide ((ji8) ≤ (a0.size : Int)) = true := decide_eq_true c10
              clear c10
              replace H := Option.bind_eq_some_iff.mp H
              obtain ⟨t103, A110, H⟩ := H
              replace H : (if t103 = true then (some (a0.extract 0 (t101 : Int).toNat, a0.extract ((ji8) : Int).toNat a0.size, true)) else (some ((⟨#[]⟩ : ByteArray), (⟨#[]⟩ : ByteArray), false))) = some (r1, r2, r3) := H
              have A11 := Aside0.mk A110
              clear A110
              by_cases c12 : t103 = true
              · subst c12
                have H1 : (some (a0.extract 0 (t101 : Int).toNat, a0.extract ((ji8) : Int).toNat a0.size, true)) = some (r1, r2, r3) := by rw [if_pos rfl] at H; exact H
                clear H
                have H := H1
                clear H1
                have c13b0 := eq_true (of_decide_eq_true (by first | (with_reducible assumption) | assumption) : 0 ≤ t101)
                have c14b0 := eq_true (of_decide_eq_true (by first | (with_reducible assumption) | assumption) : t101 ≤ (a0.size : Int))
                have c15b0 := eq_true (of_decide_eq_true (by first | (with_reducible assumption) | assumption) : 0 ≤ (ji8))
                have c16b0 := eq_true (of_decide_eq_true (by first | (with_reducible assumption) | assumption) : (ji8) ≤ (a0.size : Int))
                simp only [Option.some.injEq, Prod.mk.injEq] at H
                obtain ⟨rfl, rfl, rfl⟩ := H
                go_enter Tryd.func96, Tryd.ntmps96
                go_wp2_with (first | (go_at_call 123; (with_reducible refine (strings_LastIndexByte.calls a0 46 t101 _ A2.out).mono ?_); rintro e w' ⟨rfl, ⟨nd, rfl⟩⟩; (try first | exact ⟨rfl, _, World.drewN_drewN _ _ _⟩ | exact ⟨rfl, _, Eq.trans (World.drewN_drewN _ _ _) (congrArg (World.drewN _) (Nat.add_assoc _ _ _))⟩)) | (go_at_call 98; (with_reducible refine (word_Class.calls (a0.extract 0 (t101 : Int).toNat) true _ A6.out).mono ?_); rintro e w' ⟨rfl, ⟨nd, rfl⟩⟩; (try first | exact ⟨rfl, _, World.drewN_drewN _ _ _⟩ | exact ⟨rfl, _, Eq.trans (World.drewN_drewN _ _ _) (congrArg (World.drewN _) (Nat.add_assoc _ _ _))⟩)) | (go_at_call 99; (with_reducible refine (word_Name.calls (a0.extract ((ji8) : Int).toNat a0.size) true _ A11.out).mono ?_); rintro e w' ⟨rfl, ⟨nd, rfl⟩⟩; (try first | exact ⟨rfl, _, World.drewN_drewN _ _ _⟩ | exact ⟨rfl, _, Eq.trans (World.drewN_drewN _ _ _) (congrArg (World.drewN _) (Nat.add_assoc _ _ _))⟩)))
                repeat (go_quiet (first | (go_at_call 123; (with_reducible refine (strings_LastIndexByte.calls a0 46 t101 _ A2.out).mono ?_); rintro e w' ⟨rfl, ⟨nd, rfl⟩⟩; (try first | exact ⟨rfl, _, World.drewN_drewN _ _ _⟩ | exact ⟨rfl, _, Eq.trans (World.drewN_drewN _ _ _) (congrArg (World.drewN _) (Nat.add_assoc _ _ _))⟩)) | (go_at_call 98; (with_reducible refine (word_Class.calls (a0.extract 0 (t101 : Int).toNat) true _ A6.out).mono ?_); rintro e w' ⟨rfl, ⟨nd, rfl⟩⟩; (try first | exact ⟨rfl, _, World.drewN_drewN _ _ _⟩ | exact ⟨rfl, _, Eq.trans (World.drewN_drewN _ _ _) (congrArg (World.drewN _) (Nat.add_assoc _ _ _))⟩)) | (go_at_call 99; (with_reducible refine (word_Name.calls (a0.extract ((ji8) : Int).toNat a0.size) true _ A11.out).mono ?_); rintro e w' ⟨rfl, ⟨nd, rfl⟩⟩; (try first | exact ⟨rfl, _, World.drewN_drewN _ _ _⟩ | exact ⟨rfl, _, Eq.trans (World.drewN_drewN _ _ _) (congrArg (World.drewN _) (Nat.add_assoc _ _ _))⟩))); try go_wp2_with (first | (go_at_call 123; (with_reducible refine (strings_LastIndexByte.calls a0 46 t101 _ A2.out).mono ?_); rintro e w' ⟨rfl, ⟨nd, rfl⟩⟩; (try first | exact ⟨rfl, _, World.drewN_drewN _ _ _⟩ | exact ⟨rfl, _, Eq.trans (World.drewN_drewN _ _ _) (congrArg (World.drewN _) (Nat.add_assoc _ _ _))⟩)) | (go_at_call 98; (with_reducible refine (word_Class.calls (a0.extract 0 (t101 : Int).toNat) true _ A6.out).mono ?_); rintro e w' ⟨rfl, ⟨nd, rfl⟩⟩; (try first | exact ⟨rfl, _, World.drewN_drewN _ _ _⟩ | exact ⟨rfl, _, Eq.trans (World.drewN_drewN _ _ _) (congrArg (World.drewN _) (Nat.add_assoc _ _ _))⟩)) | (go_at_call 99; (with_reducible refine (word_Name.calls (a0.extract ((ji8) : Int).toNat a0.size) true _ A11.out).mono ?_); rintro e w' ⟨rfl, ⟨nd, rfl⟩⟩; (try first | exact ⟨rfl, _, World.drewN_drewN _ _ _⟩ | exact ⟨rfl, _, Eq.trans (World.drewN_drewN _ _ _) (congrArg (World.drewN _) (Nat.add_assoc _ _ _))⟩))))
                go_ret3
                exact ⟨by first | rfl | (simp; done) | (simp only [← hji8] <;> (first | rfl | simp)) | (simp [*]; done), by repeat (first | exact Drawn0.refl _ | apply Drawn0.step)⟩
              · replace c12 := Bool.eq_false_iff.mpr c12
                subst c12
                have H1 : (some ((⟨#[]⟩ : ByteArray), (⟨#[]⟩ : ByteArray), false)) = some (r1, r2, r3) := by rw [if_neg (show ¬ (false = true) by decide)] at H; exact H
                clear H
                have H := H1
                clear H1
                simp only [Option.some.injEq, Prod.mk.injEq] at H
                obtain ⟨rfl, rfl, rfl⟩ := H
                go_enter Tryd.func96, Tryd.ntmps96
                go_wp2_with (first | (go_at_call 123; (with_reducible refine (strings_LastIndexByte.calls a0 46 t101 _ A2.out).mono ?_); rintro e w' ⟨rfl, ⟨nd, rfl⟩⟩; (try first | exact ⟨rfl, _, World.drewN_drewN _ _ _⟩ | exact ⟨rfl, _, Eq.trans (World.drewN_drewN _ _ _) (congrArg (World.drewN _) (Nat.add_assoc _ _ _))⟩)) | (go_at_call 98; (with_reducible refine (word_Class.calls (a0.extract 0 (t101 : Int).toNat) true _ A6.out).mono ?_); rintro e w' ⟨rfl, ⟨nd, rfl⟩⟩; (try first | exact ⟨rfl, _, World.drewN_drewN _ _ _⟩ | exact ⟨rfl, _, Eq.trans (World.drewN_drewN _ _ _) (congrArg (World.drewN _) (Nat.add_assoc _ _ _))⟩)) | (go_at_call 99; (with_reducible refine (word_Name.calls (a0.extract ((ji8) : Int).toNat a0.size) false _ A11.out).mono ?_); rintro e w' ⟨rfl, ⟨nd, rfl⟩⟩; (try first | exact ⟨rfl, _, World.drewN_drewN _ _ _⟩ | exact ⟨rfl, _, Eq.trans (World.drewN_drewN _ _ _) (congrArg (World.drewN _) (Nat.add_assoc _ _ _))⟩)))
                repeat (go_quiet (first | (go_at_call 123; (with_reducible refine (strings_LastIndexByte.calls a0 46 t101 _ A2.out).mono ?_); rintro e w' ⟨rfl, ⟨nd, rfl⟩⟩; (try first | exact ⟨rfl, _, World.drewN_drewN _ _ _⟩ | exact ⟨rfl, _, Eq.trans (World.drewN_drewN _ _ _) (congrArg (World.drewN _) (Nat.add_assoc _ _ _))⟩)) | (go_at_call 98; (with_reducible refine (word_Class.calls (a0.extract 0 (t101 : Int).toNat) true _ A6.out).mono ?_); rintro e w' ⟨rfl, ⟨nd, rfl⟩⟩; (try first | exact ⟨rfl, _, World.drewN_drewN _ _ _⟩ | exact ⟨rfl, _, Eq.trans (World.drewN_drewN _ _ _) (congrArg (World.drewN _) (Nat.add_assoc _ _ _))⟩)) | (go_at_call 99; (with_reducible refine (word_Name.calls (a0.extract ((ji8) : Int).toNat a0.size) false _ A11.out).mono ?_); rintro e w' ⟨rfl, ⟨nd, rfl⟩⟩; (try first | exact ⟨rfl, _, World.drewN_drewN _ _ _⟩ | exact ⟨rfl, _, Eq.trans (World.drewN_drewN _ _ _) (congrArg (World.drewN _) (Nat.add_assoc _ _ _))⟩))); try go_wp2_with (first | (go_at_call 123; (with_reducible refine (strings_LastIndexByte.calls a0 46 t101 _ A2.out).mono ?_); rintro e w' ⟨rfl, ⟨nd, rfl⟩⟩; (try first | exact ⟨rfl, _, World.drewN_drewN _ _ _⟩ | exact ⟨rfl, _, Eq.trans (World.drewN_drewN _ _ _) (congrArg (World.drewN _) (Nat.add_assoc _ _ _))⟩)) | (go_at_call 98; (with_reducible refine (word_Class.calls (a0.extract 0 (t101 : Int).toNat) true _ A6.out).mono ?_); rintro e w' ⟨rfl, ⟨nd, rfl⟩⟩; (try first | exact ⟨rfl, _, World.drewN_drewN _ _ _⟩ | exact ⟨rfl, _, Eq.trans (World.drewN_drewN _ _ _) (congrArg (World.drewN _) (Nat.add_assoc _ _ _))⟩)) | (go_at_call 99; (with_reducible refine (word_Name.calls (a0.extract ((ji8) : Int).toNat a0.size) false _ A11.out).mono ?_); rintro e w' ⟨rfl, ⟨nd, rfl⟩⟩; (try first | exact ⟨rfl, _, World.drewN_drewN _ _ _⟩ | exact ⟨rfl, _, Eq.trans (World.drewN_drewN _ _ _) (congrArg (World.drewN _) (Nat.add_assoc _ _ _))⟩))))
                go_ret3
                exact ⟨by first | rfl | (simp; done) | (simp only [← hji8] <;> (first | rfl | simp)) | (simp [*]; done), by repeat (first | exact Drawn0.refl _ | apply Drawn0.step)⟩
            · rw [if_neg c10] at H
              exact absurd H (by simp)
          · rw [if_neg c9] at H
            exact absurd H (by simp)
        · replace c7 := Bool.eq_false_iff.mpr c7
          subst c7
          have H1 : (some ((⟨#[]⟩ : ByteArray), (⟨#[]⟩ : ByteArray), false)) = some (r1, r2, r3) := by rw [if_neg (show ¬ (false = true) by decide)] at H; exact H
          clear H
          have H := H1
          clear H1
          simp only [Option.some.injEq, Prod.mk.injEq] at H
          obtain ⟨rfl, rfl, rfl⟩ := H
          go_enter Tryd.func96, Tryd.ntmps96
          go_wp2_with (first | (go_at_call 123; (with_reducible refine (strings_LastIndexByte.calls a0 46 t101 _ A2.out).mono ?_); rintro e w' ⟨rfl, ⟨nd, rfl⟩⟩; (try first | exact ⟨rfl, _, World.drewN_drewN _ _ _⟩ | exact ⟨rfl, _, Eq.trans (World.drewN_drewN _ _ _) (congrArg (World.drewN _) (Nat.add_assoc _ _ _))⟩)) | (go_at_call 98; (with_reducible refine (word_Class.calls (a0.extract 0 (t101 : Int).toNat) false _ A6.out).mono ?_); rintro e w' ⟨rfl, ⟨nd, rfl⟩⟩; (try first | exact ⟨rfl, _, World.drewN_drewN _ _ _⟩ | exact ⟨rfl, _, Eq.trans (World.drewN_drewN _ _ _) (congrArg (World.drewN _) (Nat.add_assoc _ _ _))⟩)))
          repeat (go_quiet (first | (go_at_call 123; (with_reducible refine (strings_LastIndexByte.calls a0 46 t101 _ A2.out).mono ?_); rintro e w' ⟨rfl, ⟨nd, rfl⟩⟩; (try first | exact ⟨rfl, _, World.drewN_drewN _ _ _⟩ | exact ⟨rfl, _, Eq.trans (World.drewN_drewN _ _ _) (congrArg (World.drewN _) (Nat.add_assoc _ _ _))⟩)) | (go_at_call 98; (with_reducible refine (word_Class.calls (a0.extract 0 (t101 : Int).toNat) false _ A6.out).mono ?_); rintro e w' ⟨rfl, ⟨nd, rfl⟩⟩; (try first | exact ⟨rfl, _, World.drewN_drewN _ _ _⟩ | exact ⟨rfl, _, Eq.trans (World.drewN_drewN _ _ _) (congrArg (World.drewN _) (Nat.add_assoc _ _ _))⟩))); try go_wp2_with (first | (go_at_call 123; (with_reducible refine (strings_LastIndexByte.calls a0 46 t101 _ A2.out).mono ?_); rintro e w' ⟨rfl, ⟨nd, rfl⟩⟩; (try first | exact ⟨rfl, _, World.drewN_drewN _ _ _⟩ | exact ⟨rfl, _, Eq.trans (World.drewN_drewN _ _ _) (congrArg (World.drewN _) (Nat.add_assoc _ _ _))⟩)) | (go_at_call 98; (with_reducible refine (word_Class.calls (a0.extract 0 (t101 : Int).toNat) false _ A6.out).mono ?_); rintro e w' ⟨rfl, ⟨nd, rfl⟩⟩; (try first | exact ⟨rfl, _, World.drewN_drewN _ _ _⟩ | exact ⟨rfl, _, Eq.trans (World.drewN_drewN _ _ _) (congrArg (World.drewN _) (Nat.add_assoc _ _ _))⟩))))
          go_ret3
          exact ⟨by first | rfl | (simp; done) | (simp [*]; done), by repeat (first | exact Drawn0.refl _ | apply Drawn0.step)⟩
      · rw [if_neg c5] at H
        exact absurd H (by simp)
    · rw [if_neg c4] at H
      exact absurd H (by simp)

/-! ### slices_Reverse_byte_byte: function 127 -/
def slices_Reverse_byte_byte.l0 : Nat → List Int → Int → Int → Option (List Int)
  | 0, _, _, _ => none
  | k + 1, x0, x2, x3 => if x2 < x3 then (if 0 ≤ x3 then (if x3 < (x0.length : Int) then (if 0 ≤ x2 then (if x2 < (x0.length : Int) then (slices_Reverse_byte_byte.l0 k ((x0.set (x2 : Int).toNat (rd x0 x3)).set (x3 : Int).toNat (rd x0 x2)) (wrap64 (x2 + 1)) (wrap64 (x3 - 1))) else (none)) else (none)) else (none)) else (none)) else (some x0)
def slices_Reverse_byte_byte.f (k : Nat) (l0 : List Int) : Option (List Int) := slices_Reverse_byte_byte.l0 k l0 0 (wrap64 ((l0.length : Int) - 1))
theorem slices_Reverse_byte_byte.mono_l : ∀ k, (∀ y0 y1 y2, LeO (slices_Reverse_byte_byte.l0 k y0 y1 y2) (slices_Reverse_byte_byte.l0 (k + 1) y0 y1 y2))
  | 0 => fun _ _ _ r h => by simp [slices_Reverse_byte_byte.l0] at h
  | k + 1 => by
    have ih0 := slices_Reverse_byte_byte.mono_l k
    · intro y0 y1 y2
      unfold slices_Reverse_byte_byte.l0
      repeat' first
      | (with_reducible exact ih0 _ _ _)
      | (with_reducible exact LeO.refl _)
      | (with_reducible exact LeO.none _)
      | (with_reducible refine LeO.ite ?_ ?_)
      | (with_reducible refine LeO.bind ?_ (fun _ => ?_))
      | exact ih0 _ _ _
      | exact LeO.none _
      | refine LeO.ite ?_ ?_
      | refine LeO.bind ?_ (fun _ => ?_)
theorem slices_Reverse_byte_byte.mono : ∀ a0 k, LeO (slices_Reverse_byte_byte.f k a0) (slices_Reverse_byte_byte.f (k + 1) a0) := by
  intro a0 k
  have ih0 := slices_Reverse_byte_byte.mono_l k
  unfold slices_Reverse_byte_byte.f
  repeat' first
      | (with_reducible exact ih0 _ _ _)
      | (with_reducible exact LeO.refl _)
      | (with_reducible exact LeO.none _)
      | (with_reducible refine LeO.ite ?_ ?_)
      | (with_reducible refine LeO.bind ?_ (fun _ => ?_))
      | exact ih0 _ _ _
      | exact LeO.none _
      | refine LeO.ite ?_ ?_
      | refine LeO.bind ?_ (fun _ => ?_)
def slices_Reverse_byte_byte.T3 : Bool × List (List Nat × List Nat) := (true, [([], []), ([], []), ([], []), ([], []), ([], []), ([], []), ([4, 5], [4, 5]), ([6], [6]), ([], []), ([], []), ([8, 9], [8, 9]), ([10], [10]), ([0, 1, 0, 1, 4, 5, 6, 7, 11], [0, 1]), ([12, 7, 0, 1, 4, 5, 6, 7, 11], [7, 12]), ([2, 3, 0, 1, 2, 3, 4, 5, 6, 7, 8, 9, 10, 11, 12, 13], [2, 3]), ([14, 11, 13, 0, 1, 2, 3, 4, 5, 6, 7, 8, 9, 10, 11, 12, 13], [11, 14])])
def slices_Reverse_byte_byte.B3 : List Nat := [0, 0, 0, 0, 0, 0, 48, 112, 0, 0, 768, 1792, 4083, 8179, 16383, 32767]
theorem slices_Reverse_byte_byte.tab3 : rtab .any (opsOf Tryd.f127 3) = slices_Reverse_byte_byte.T3 := by kernel_rfl
theorem slices_Reverse_byte_byte.bits3 : waitsOk slices_Reverse_byte_byte.T3.2 slices_Reverse_byte_byte.B3 = true := by kernel_rfl
set_option maxHeartbeats 8000000 in
set_option maxRecDepth 100000 in
theorem slices_Reverse_byte_byte.calls (k : Nat) (P0_ : Nat → Prop) (u9000_ : Value) (l0 : List Int) (r : List Int) (w0 w : World) (hB : Below w0.heap.size w0 w) (ho0 : Kd.R (Kd.int .u8) 5 w w0.heap.size P0_ u9000_ l0) (h : slices_Reverse_byte_byte.f k l0 = some r) :
    Calls Tryd.prog 127 #[u9000_] w fun e w' => e = .returned (.tuple #[]) ∧ Kd.R (Kd.int .u8) 5 w' w0.heap.size (fun k_ => (P0_ k_ ∨ w.heap.size ≤ k_)) u9000_ r ∧ Below w0.heap.size w0 w' ∧ Kept w w' (fun k_ => P0_ k_) := by
  have HO0 := Aside0.mk (show Kd.R (Kd.int .u8) 5 w w0.heap.size (fun k_ => (P0_ k_ ∨ w.heap.size ≤ k_)) u9000_ l0 from Kd.R_mono ho0 (fun k_ hk => (.inl hk)))
  have HK := Aside0.mk (Kept.refl w (fun k_ => P0_ k_))
  have HW0 := Aside0.mk hB.size
  have HB := Aside0.mk hB
  clear hB
  have H : (slices_Reverse_byte_byte.l0 k l0 0 (wrap64 ((l0.length : Int) - 1))) = some r := h
  clear h
  have H' := Aside0.mk H
  clear H
  obtain ⟨Ao2, co2, eo2⟩ := Kd.R_slice HO0.out
  subst eo2
  go_enter Tryd.func127, Tryd.ntmps127
  go_wp2
  go_loopg [2, 3] k (fun kq v2 v3 w' => ∃ (x0_1 : List Int) (x2_1 : Int) (x3_1 : Int), v2 = .int .i64 x2_1 ∧ v3 = .int .i64 x3_1 ∧ Aside0 (slices_Reverse_byte_byte.l0 kq x0_1 x2_1 x3_1 = some r) ∧ Aside0 (kq ≤ k) ∧ Aside0 (Kd.R (Kd.int .u8) 5 w' w0.heap.size (fun k_ => (P0_ k_ ∨ w.heap.size ≤ k_)) (.slice Ao2 l0.length co2) x0_1) ∧ Aside0 (Kept w w' (fun k_ => P0_ k_)) ∧ Aside0 (Below w0.heap.size w0 w'))
  case atStart => exact ⟨(l0), (0), (wrap64 ((l0.length : Int) - 1)), (by first | rfl | (simp; done) | (simp [*]; done)), (by first | rfl | (simp; done) | (simp [*]; done)), H', ⟨Nat.le_refl _⟩, ⟨by (with_reducible repeat (first | apply Kd.R_alloc | apply Kd.R_drewN | apply Kd.R_drew)); exact HO0.out⟩, ⟨by repeat (first | (with_reducible first | exact HK.out | apply Kept.alloc | apply Kept.drewN | apply Kept.drew) | exact HK.out)⟩, ⟨by repeat (first | (with_reducible first | exact HB.out | apply below_alloc | apply pw_below_drewN | apply below_drew1) | exact HB.out)⟩⟩
  case round =>
    clear H'
    try clear c1
    try clear p2
    obtain ⟨x0_1, x2_1, x3_1, rfl, rfl, HA, HK1, HO_0, HK, HB⟩ := hrel
    have hl0_1 := (Kd.R_reads' HO_0.out).1
    rw [hl0_1] at HO_0
    (try simp only [hl0_1])
    cases gk with
    | zero => exact absurd HA.out (by simp [slices_Reverse_byte_byte.l0])
    | succ k1 =>
      have H := HA.out
      clear HA
      simp only [slices_Reverse_byte_byte.l0] at H
      by_cases c3 : x2_1 < x3_1
      · rw [if_pos c3] at H
        have c3b0 : decide (x2_1 < x3_1) = true := decide_eq_true c3
        clear c3
        by_cases c4 : 0 ≤ x3_1
        · rw [if_pos c4] at H
          have c4b0 : decide (0 ≤ x3_1) = true := decide_eq_true c4
          clear c4
          by_cases c5 : x3_1 < (x0_1.length : Int)
          · rw [if_pos c5] at H
            have c5b0 : decide (x3_1 < (x0_1.length : Int)) = true := decide_eq_true c5
            clear c5
            by_cases c6 : 0 ≤ x2_1
            · rw [if_pos c6] at H
              have c6b0 : decide (0 ≤ x2_1) = true := decide_eq_true c6
              clear c6
              by_cases c7 : x2_1 < (x0_1.length : Int)
              · rw [if_pos c7] at H
                have c7b0 : decide (x2_1 < (x0_1.length : Int)) = true := decide_eq_true c7
                clear c7
                obtain ⟨y106, hy106⟩ : ∃ y_ : List Int, y_ = (x0_1.set (x2_1 : Int).toNat (rd x0_1 x3_1)) := ⟨_, rfl⟩
                replace H : (slices_Reverse_byte_byte.l0 k1 (y106.set (x3_1 : Int).toNat (rd x0_1 x2_1)) (wrap64 (x2_1 + 1)) (wrap64 (x3_1 - 1))) = some r := by first | (rw [hy106]; with_reducible exact H) | (have H2_ := (Option.bind_some _ _).symm.trans H; rw [hy106]; with_reducible exact H2_) | (have H2_ := (Option.bind_some _ _).symm.trans H; with_reducible exact H2_) | with_reducible exact H | (rw [hy106]; exact H) | exact H
                have Ny106 := Aside0.mk hy106
                clear hy106
                obtain ⟨y107, hy107⟩ : ∃ y_ : List Int, y_ = (y106.set (x3_1 : Int).toNat (rd x0_1 x2_1)) := ⟨_, rfl⟩
                replace H : (slices_Reverse_byte_byte.l0 k1 y107 (wrap64 (x2_1 + 1)) (wrap64 (x3_1 - 1))) = some r := by first | (rw [hy107]; with_reducible exact H) | (have H2_ := (Option.bind_some _ _).symm.trans H; rw [hy107]; with_reducible exact H2_) | (have H2_ := (Option.bind_some _ _).symm.trans H; with_reducible exact H2_) | with_reducible exact H | (rw [hy107]; exact H) | exact H
                have Ny107 := Aside0.mk hy107
                clear hy107
                have H' := Aside0.mk H
                clear H
                try go_wp2
                have n0_ := Aside0.mk (Kd.R_drew HO_0.out)
                have n1_ := Aside0.mk (Kept.drew HK.out)
                have n2_ := Aside0.mk (below_drew1 HB.out)
                clear HO_0
                clear HK
                clear HB
                have HO_0 := n0_
                have HK := n1_
                have HB := n2_
                clear n0_ n1_ n2_
                have p104 : 0 ≤ (x3_1 : Int) := of_decide_eq_true (by first | (with_reducible assumption) | assumption)
                have q104 : x3_1 < (x0_1.length : Int) := of_decide_eq_true (by first | (with_reducible assumption) | assumption)
                obtain ⟨ad104, e104, hx104_0⟩ := Kd.at_int (Kd.R_reads' HO_0.out).2.2 x3_1 p104 q104
                cases e104
                replace p104 := eq_true p104
                replace q104 := eq_true q104
                have p105 : 0 ≤ (x2_1 : Int) := of_decide_eq_true (by first | (with_reducible assumption) | assumption)
                have q105 : x2_1 < (x0_1.length : Int) := of_decide_eq_true (by first | (with_reducible assumption) | assumption)
                obtain ⟨ad105, e105, hx105_0⟩ := Kd.at_int (Kd.R_reads' HO_0.out).2.2 x2_1 p105 q105
                obtain rfl : ad104 = ad105 := (by injection e105)
                replace p105 := eq_true p105
                replace q105 := eq_true q105
                have p8 : 0 ≤ (x2_1 : Int) := of_decide_eq_true (by first | (with_reducible assumption) | assumption)
                have q8 : (x2_1 : Int) < ((x0_1.length : Int) : Int) := of_decide_eq_true (by first | (with_reducible assumption) | assumption)
                obtain ⟨go8, co8, eo8, gb8, gl8, cl8, HG8⟩ := Kd.R_form HO_0.out (by omega)
                (first | cases eo8 | (injection eo8 with ea_ en_ ec_; (first | subst ea_ | (injection ea_ with ea_; subst ea_)); subst ec_; clear en_))
                have GB8 := Aside0.mk gb8
                have GG8 := Aside0.mk HG8
                clear gb8 gl8 HG8
                have HMgo8 := Aside0.mk (show (P0_ go8 ∨ w.heap.size ≤ go8) from (HO_0.out.1 _ rfl))
                (first | simp only [add_plain] at hx104_0 | skip)
                (first | simp only [add_plain] at hx105_0 | skip)
                obtain ⟨hx8_0, hf8_0⟩ := Kd.R_celln 0 HO_0.out (x2_1 : Int) p8 q8
                replace p8 := eq_true p8
                replace q8 := eq_true q8
                have HP11 := Kd.R_putn HO_0.out (x2_1 : Int) (rd x0_1 x3_1)
                rw [← Ny106.out] at HP11
                have HQ11 := Aside0.mk HP11
                clear HP11
                have p9 : 0 ≤ (x3_1 : Int) := of_decide_eq_true (by first | (with_reducible assumption) | assumption)
                have q9 : (x3_1 : Int) < ((x0_1.length : Int) : Int) := of_decide_eq_true (by first | (with_reducible assumption) | assumption)
                obtain ⟨hx9_0, hf9_0⟩ := Kd.R_celln 0 HQ11.out (x3_1 : Int) p9 q9
                replace p9 := eq_true p9
                replace q9 := eq_true q9
                have HP12 := Kd.R_putn HQ11.out (x3_1 : Int) (rd x0_1 x2_1)
                rw [← Ny107.out] at HP12
                have HQ12 := Aside0.mk HP12
                clear HP12
                refine start_ (n := 16) (S := fun w' => w'.cell? ⟨go8, (x3_1).toNat, none⟩ = some (.int .u8 (rd x0_1 x3_1)) ∧ w'.cell? ⟨go8, (x2_1).toNat, none⟩ = some (.int .u8 (rd x0_1 x2_1))) (ds := [13, 15]) #[false, false, false, false, false, false, false, false, false, false, false, false, false, false, false, false] (by kernel_rfl) rfl rfl ⟨hx104_0, hx105_0⟩ (fun hHeld => ?_); refine with_tabW slices_Reverse_byte_byte.tab3 slices_Reverse_byte_byte.bits3 (fun HT_ HW_ => ?_)
                generalize wr.drew = w10 at HO_0 HK HB GG8 HQ11 HQ12 hf8_0 hf9_0 hx104_0 hx105_0 hx8_0 hx9_0 hHeld ⊢
                refine pure_ (i := 0) (N := some 14) (v := ?_) (a' := ?_) #[true, false, false, false, false, false, false, false, false, false, false, false, false, false, false, false] rfl rfl (any_of HT_.out (by kernel_rfl)) (fun _ _ _ h => h) (Or.inl ⟨by rfl, ?_⟩) ?_ ?_
                rotate_left
                · intro w'
                  go_simp
                  with_reducible rfl
                rotate_left
                · simp only [Act.put, List.setIfInBounds_toArray, List.set_cons_zero, List.set_cons_succ, i64_w, i32_w]
                  rfl
                refine pure_ (i := 1) (N := some 15) (v := ?_) (a' := ?_) #[true, true, false, false, false, false, false, false, false, false, false, false, false, false, false, false] rfl rfl (any_of HT_.out (by kernel_rfl)) (fun _ _ _ h => h) (Or.inl ⟨by rfl, ?_⟩) ?_ ?_
                rotate_left
                · intro w'
                  go_simp
                  with_reducible rfl
                rotate_left
                · simp only [Act.put, List.setIfInBounds_toArray, List.set_cons_zero, List.set_cons_succ, i64_w, i32_w]
                  rfl
                refine pure_ (i := 2) (N := some 16) (v := ?_) (a' := ?_) #[true, true, true, false, false, false, false, false, false, false, false, false, false, false, false, false] rfl rfl (any_of HT_.out (by kernel_rfl)) (fun _ _ _ h => h) (Or.inl ⟨by rfl, ?_⟩) ?_ ?_
                rotate_left
                · intro w'
                  go_simp
                  with_reducible rfl
                rotate_left
                · simp only [Act.put, List.setIfInBounds_toArray, List.set_cons_zero, List.set_cons_succ, i64_w, i32_w]
                  rfl
                refine pure_ (i := 3) (N := some 17) (v := ?_) (a' := ?_) #[true, true, true, true, false, false, false, false, false, false, false, false, false, false, false, false] rfl rfl (any_of HT_.out (by kernel_rfl)) (fun _ _ _ h => h) (Or.inl ⟨by rfl, ?_⟩) ?_ ?_
                rotate_left
                · intro w'
                  go_simp
                  with_reducible rfl
                rotate_left
                · simp only [Act.put, List.setIfInBounds_toArray, List.set_cons_zero, List.set_cons_succ, i64_w, i32_w]
                  rfl
                refine pure_ (i := 4) (N := some 18) (v := ?_) (a' := ?_) #[true, true, true, true, true, false, false, false, false, false, false, false, false, false, false, false] rfl rfl (any_of HT_.out (by kernel_rfl)) (fun _ _ _ h => h) (Or.inl ⟨by rfl, ?_⟩) ?_ ?_
                rotate_left
                · intro w'
                  go_simp
                  with_reducible rfl
                rotate_left
                · simp only [Act.put, List.setIfInBounds_toArray, List.set_cons_zero, List.set_cons_succ, i64_w, i32_w]
                  rfl
                refine pure_ (i := 5) (N := some 19) (v := ?_) (a' := ?_) #[true, true, true, true, true, true, false, false, false, false, false, false, false, false, false, false] rfl rfl (any_of HT_.out (by kernel_rfl)) (fun _ _ _ h => h) (Or.inl ⟨by rfl, ?_⟩) ?_ ?_
                rotate_left
                · intro w'
                  go_simp
                  with_reducible rfl
                rotate_left
                · simp only [Act.put, List.setIfInBounds_toArray, List.set_cons_zero, List.set_cons_succ, i64_w, i32_w]
                  rfl
                refine pure_ (i := 6) (N := some 20) (v := ?_) (a' := ?_) #[true, true, true, true, true, true, true, false, false, false, false, false, false, false, false, false] rfl rfl (any_of HT_.out (by kernel_rfl)) (fun _ _ _ h => h) (Or.inl ⟨by rfl, ?_⟩) ?_ ?_
                rotate_left
                · intro w'
                  go_simp
                  with_reducible rfl
                rotate_left
                · simp only [Act.put, List.setIfInBounds_toArray, List.set_cons_zero, List.set_cons_succ, i64_w, i32_w]
                  rfl
                refine pure_ (i := 8) (N := some 22) (v := ?_) (a' := ?_) #[true, true, true, true, true, true, true, false, true, false, false, false, false, false, false, false] rfl rfl (any_of HT_.out (by kernel_rfl)) (fun _ _ _ h => h) (Or.inl ⟨by rfl, ?_⟩) ?_ ?_
                rotate_left
                · intro w'
                  go_simp
                  with_reducible rfl
                rotate_left
                · simp only [Act.put, List.setIfInBounds_toArray, List.set_cons_zero, List.set_cons_succ, i64_w, i32_w]
                  rfl
                refine pure_ (i := 9) (N := some 23) (v := ?_) (a' := ?_) #[true, true, true, true, true, true, true, false, true, true, false, false, false, false, false, false] rfl rfl (any_of HT_.out (by kernel_rfl)) (fun _ _ _ h => h) (Or.inl ⟨by rfl, ?_⟩) ?_ ?_
                rotate_left
                · intro w'
                  go_simp
                  with_reducible rfl
                rotate_left
                · simp only [Act.put, List.setIfInBounds_toArray, List.set_cons_zero, List.set_cons_succ, i64_w, i32_w]
                  rfl
                refine pure_ (i := 10) (N := some 24) (v := ?_) (a' := ?_) #[true, true, true, true, true, true, true, false, true, true, true, false, false, false, false, false] rfl rfl (any_of HT_.out (by kernel_rfl)) (fun _ _ _ h => h) (Or.inl ⟨by rfl, ?_⟩) ?_ ?_
                rotate_left
                · intro w'
                  go_simp
                  with_reducible rfl
                rotate_left
                · simp only [Act.put, List.setIfInBounds_toArray, List.set_cons_zero, List.set_cons_succ, i64_w, i32_w]
                  rfl
                refine take_ (i := 7) (N := some 21) (v := ?_) (a' := ?_) #[true, true, true, true, true, true, true, true, true, true, true, false, false, false, false, false] rfl rfl (take_ofW HT_.out HW_.out (by kernel_rfl)) (fun _ _ _ h => h) (Or.inl ⟨by rfl, ?_⟩) hHeld ?_ ?_
                rotate_left
                · rintro w' ⟨s0, s1⟩
                  go_simp
                  with_reducible rfl
                rotate_left
                · simp only [Act.put, List.setIfInBounds_toArray, List.set_cons_zero, List.set_cons_succ, i64_w, i32_w]
                  rfl
                refine take_ (i := 11) (N := some 25) (v := ?_) (a' := ?_) #[true, true, true, true, true, true, true, true, true, true, true, true, false, false, false, false] rfl rfl (take_ofW HT_.out HW_.out (by kernel_rfl)) (fun _ _ _ h => h) (Or.inl ⟨by rfl, ?_⟩) hHeld ?_ ?_
                rotate_left
                · rintro w' ⟨s0, s1⟩
                  go_simp
                  with_reducible rfl
                rotate_left
                · simp only [Act.put, List.setIfInBounds_toArray, List.set_cons_zero, List.set_cons_succ, i64_w, i32_w]
                  rfl
                refine pure_ (i := 12) (N := some 26) (v := ?_) (a' := ?_) #[true, true, true, true, true, true, true, true, true, true, true, true, true, false, false, false] rfl rfl (any_of HT_.out (by kernel_rfl)) (fun _ _ _ h => h) (Or.inl ⟨by rfl, ?_⟩) ?_ ?_
                rotate_left
                · intro w'
                  go_simp
                  with_reducible rfl
                rotate_left
                · simp only [Act.put, List.setIfInBounds_toArray, List.set_cons_zero, List.set_cons_succ, i64_w, i32_w]
                  rfl
                refine last_ (i := 13) (N := none) #[true, true, true, true, true, true, true, true, true, true, true, true, true, true, false, false] rfl rfl (one_of HT_.out (by kernel_rfl)) (by decide) (fun K hK => ?_)
                refine skip_ (w1 := ?_) (by rfl) rfl ?_ ?_
                rotate_left
                · go_simp
                  rfl
                refine hK.out _ _ ?_
                clear hK K
                refine pure_ (i := 14) (N := some 27) (v := ?_) (a' := ?_) #[true, true, true, true, true, true, true, true, true, true, true, true, true, true, true, false] rfl rfl (any_of HT_.out (by kernel_rfl)) (fun _ _ _ h => h) (Or.inl ⟨by rfl, ?_⟩) ?_ ?_
                rotate_left
                · intro w'
                  go_simp
                  with_reducible rfl
                rotate_left
                · simp only [Act.put, List.setIfInBounds_toArray, List.set_cons_zero, List.set_cons_succ, i64_w, i32_w]
                  rfl
                refine last_ (i := 15) (N := none) #[true, true, true, true, true, true, true, true, true, true, true, true, true, true, true, true] rfl rfl (one_of HT_.out (by kernel_rfl)) (by decide) (fun K hK => ?_)
                refine skip_ (w1 := ?_) (by rfl) rfl ?_ ?_
                rotate_left
                · go_simp
                  rfl
                refine hK.out _ _ ?_
                clear hK K
                refine done_ (done_of HT_.out (by kernel_rfl)) ?_
                try go_wp2
                (try simp only [← hl0_1])
                go_roundg k1
                case measure => have := HK1.out; omega
                case rel => exact ⟨(y107), (wrap64 (x2_1 + 1)), (wrap64 (x3_1 - 1)), (by first | rfl | (simp; done) | (simp [*]; done)), (by first | rfl | (simp; done) | (simp [*]; done)), H', ⟨by have := HK1.out; omega⟩, ⟨by (try simp only [hl0_1]); (with_reducible repeat (first | apply Kd.R_alloc | apply Kd.R_drewN | apply Kd.R_drew)); exact HQ12.out⟩, ⟨by repeat (first | (with_reducible first | exact HK.out | apply Kept.alloc | apply Kept.drewN | apply Kept.drew | refine Kept.setCell ?_ HMgo8.out _ | refine Kept.setCell ?_ HMgo8.out _) | exact HK.out)⟩, ⟨by repeat (first | (with_reducible first | exact HB.out | apply below_alloc | apply pw_below_drewN | apply below_drew1 | refine below_set ?_ GB8.out | refine below_set ?_ GB8.out) | exact HB.out)⟩⟩
              · rw [if_neg c7] at H
                exact absurd H (by simp)
            · rw [if_neg c6] at H
              exact absurd H (by simp)
          · rw [if_neg c5] at H
            exact absurd H (by simp)
        · rw [if_neg c4] at H
          exact absurd H (by simp)
      · rw [if_neg c3] at H
        have c3b0 : decide (x2_1 < x3_1) = false := decide_eq_false c3
        clear c3
        obtain rfl := Option.some.inj H
        go_wp2
        first | go_end0 | ((try simp only [Exit.inBlock, Exit.then]); refine bodyPost_ret (results_none rfl _ _ _) rfl ?_)
        exact ⟨by first | rfl | (simp [errW_none, errW_some] <;> rfl) | (simp [*, errW_none, errW_some] <;> rfl), (by first | exact (by (with_reducible repeat (first | apply Kd.R_alloc | apply Kd.R_drewN | apply Kd.R_drew)); exact HO_0.out) | (simp only [hl0_1]; exact (by (with_reducible repeat (first | apply Kd.R_alloc | apply Kd.R_drewN | apply Kd.R_drew)); exact HO_0.out))), by repeat (first | (with_reducible first | exact HB.out | apply below_alloc | apply pw_below_drewN | apply below_drew1) | exact HB.out), by repeat (first | (with_reducible first | exact HK.out | apply Kept.alloc | apply Kept.drewN | apply Kept.drew) | exact HK.out)⟩

/-! ### word_Digits: function 100 -/
def word_Digits.l0 : Nat → Int → List Int → Int → Option (ByteArray)
  | 0, _, _, _ => none
  | k + 1, x0, x3, x4 => if x3.length < 140737488355328 then ((some (x3 ++ [(48 + (mx (Int.tmod x4 10) (wrap64 (-(Int.tmod x4 10))))) % 256] : List Int)).bind fun y108 => (if (wrap64 (Int.tdiv x4 10)) = 0 then (if x0 < 0 then (if y108.length < 140737488355328 then ((slices_Reverse_byte_byte.f k (y108 ++ [45])).bind fun t114 => (some (strOfNums t114))) else (none)) else ((slices_Reverse_byte_byte.f k y108).bind fun t115 => (some (strOfNums t115)))) else (word_Digits.l0 k x0 y108 (wrap64 (Int.tdiv x4 10))))) else (none)
def word_Digits.f (k : Nat) (a0 : Int) : Option (ByteArray) := word_Digits.l0 k a0 ([] : List Int) a0
theorem word_Digits.mono_l : ∀ k, (∀ y0 y1 y2, LeO (word_Digits.l0 k y0 y1 y2) (word_Digits.l0 (k + 1) y0 y1 y2))
  | 0 => fun _ _ _ r h => by simp [word_Digits.l0] at h
  | k + 1 => by
    have ih0 := word_Digits.mono_l k
    · intro y0 y1 y2
      unfold word_Digits.l0
      repeat' first
      | (with_reducible exact ih0 _ _ _)
      | (with_reducible exact slices_Reverse_byte_byte.mono _ _)
      | (with_reducible exact LeO.refl _)
      | (with_reducible exact LeO.none _)
      | (with_reducible refine LeO.ite ?_ ?_)
      | (with_reducible refine LeO.bind ?_ (fun _ => ?_))
      | exact ih0 _ _ _
      | exact slices_Reverse_byte_byte.mono _ _
      | exact LeO.none _
      | refine LeO.ite ?_ ?_
      | refine LeO.bind ?_ (fun _ => ?_)
theorem word_Digits.mono : ∀ a0 k, LeO (word_Digits.f k a0) (word_Digits.f (k + 1) a0) := by
  intro a0 k
  have ih0 := word_Digits.mono_l k
  unfold word_Digits.f
  repeat' first
      | (with_reducible exact ih0 _ _ _)
      | (with_reducible exact slices_Reverse_byte_byte.mono _ _)
      | (with_reducible exact LeO.refl _)
      | (with_reducible exact LeO.none _)
      | (with_reducible refine LeO.ite ?_ ?_)
      | (with_reducible refine LeO.bind ?_ (fun _ => ?_))
      | exact ih0 _ _ _
      | exact slices_Reverse_byte_byte.mono _ _
      | exact LeO.none _
      | refine LeO.ite ?_ ?_
      | refine LeO.bind ?_ (fun _ => ?_)
set_option maxHeartbeats 8000000 in
set_option maxRecDepth 100000 in
theorem word_Digits.calls (k : Nat) (a0 : Int) (r : ByteArray) (w : World) (h : word_Digits.f k a0 = some r) :
    Calls Tryd.prog 100 #[.int .i64 a0] w fun e w' => e = .returned (.string r) ∧ Below w.heap.size w w' := by
  have HB := Aside0.mk (Below.refl w.heap.size w)
  have H : (word_Digits.l0 k a0 ([] : List Int) a0) = some r := h
  clear h
  have H' := Aside0.mk H
  clear H
  go_enter Tryd.func100, Tryd.ntmps100
  go_wp2
  go_loopg [3, 4] k (fun kq v3 v4 w' => ∃ (x3_1 : List Int) (x4_1 : Int), v4 = .int .i64 x4_1 ∧ Aside0 (word_Digits.l0 kq a0 x3_1 x4_1 = some r) ∧ Aside0 (kq ≤ k) ∧ Aside0 (Kd.R (Kd.int .u8) 5 w' w.heap.size (fun _ => True) v3 x3_1) ∧ Aside0 (Below w.heap.size w w'))
  case atStart => exact ⟨(([] : List Int)), (a0), (by first | rfl | (simp; done) | (simp [*]; done)), H', ⟨Nat.le_refl _⟩, ⟨by first | exact Kd.R_nil _ _ _ _ _ | exact Kd.N_nil _ _ _ _ _ | exact Kd.V_nil _ _ _ _ _ | exact Kd.Q_nil _ _ _ _ _ | exact Kd.S_nil _ _ _ _ _⟩, ⟨by repeat (first | (with_reducible first | exact HB.out | apply below_alloc | apply pw_below_drewN | apply below_drew1) | exact HB.out)⟩⟩
  case round =>
    clear H'
    try clear c1
    obtain ⟨x3_1, x4_1, rfl, HA, HK1, HO_3, HB⟩ := hrel
    cases gk with
    | zero => exact absurd HA.out (by simp [word_Digits.l0])
    | succ k1 =>
      have H := HA.out
      clear HA
      simp only [word_Digits.l0] at H
      obtain ⟨ji2, hji2⟩ : ∃ j_ : Int, (mx (Int.tmod x4_1 10) (wrap64 (-(Int.tmod x4_1 10)))) = j_ := ⟨_, rfl⟩
      replace H : (if x3_1.length < 140737488355328 then ((some (x3_1 ++ [(48 + (ji2)) % 256] : List Int)).bind fun y108 => (if (wrap64 (Int.tdiv x4_1 10)) = 0 then (if a0 < 0 then (if y108.length < 140737488355328 then ((slices_Reverse_byte_byte.f k1 (y108 ++ [45])).bind fun t114 => (some (strOfNums t114))) else (none)) else ((slices_Reverse_byte_byte.f k1 y108).bind fun t115 => (some (strOfNums t115)))) else (word_Digits.l0 k1 a0 y108 (wrap64 (Int.tdiv x4_1 10))))) else (none)) = some r := by first | (rw [hji2] at H; exact H) | (simp only [hji2] at H ⊢; exact H)
      have hji2_ : (if (Int.tmod x4_1 10) < (wrap64 (-(Int.tmod x4_1 10))) then (wrap64 (-(Int.tmod x4_1 10))) else (Int.tmod x4_1 10)) = ji2 := hji2
      by_cases c3 : x3_1.length < 140737488355328
      · rw [if_pos c3] at H
        have LMc3 := Aside0.mk c3
        clear c3
        obtain ⟨y108, hy108⟩ : ∃ y_ : List Int, y_ = (x3_1 ++ [(48 + (ji2)) % 256]) := ⟨_, rfl⟩
        replace H : (if (wrap64 (Int.tdiv x4_1 10)) = 0 then (if a0 < 0 then (if y108.length < 140737488355328 then ((slices_Reverse_byte_byte.f k1 (y108 ++ [45])).bind fun t114 => (some (strOfNums t114))) else (none)) else ((slices_Reverse_byte_byte.f k1 y108).bind fun t115 => (some (strOfNums t115)))) else (word_Digits.l0 k1 a0 y108 (wrap64 (Int.tdiv x4_1 10)))) = some r := by first | (rw [hy108]; with_reducible exact H) | (have H2_ := (Option.bind_some _ _).symm.trans H; rw [hy108]; with_reducible exact H2_) | (have H2_ := (Option.bind_some _ _).symm.trans H; with_reducible exact H2_) | with_reducible exact H | (rw [hy108]; exact H) | exact H
        have Ny108 := Aside0.mk hy108
        clear hy108
        by_cases c4 : (wrap64 (Int.tdiv x4_1 10)) = 0
        · rw [if_pos c4] at H
          have c4b0 : ((wrap64 (Int.tdiv x4_1 10)) == 0) = true := beq_iff_eq.mpr c4
          have c4b1 : ((wrap64 (Int.tdiv x4_1 10)) != 0) = false := bne_eq_false_iff_eq.mpr c4
          clear c4
          by_cases c5 : a0 < 0
          · rw [if_pos c5] at H
            have c5b0 : decide (a0 < 0) = true := decide_eq_true c5
            clear c5
            by_cases c6 : y108.length < 140737488355328
            · rw [if_pos c6] at H
              have LMc6 := Aside0.mk c6
              clear c6
              obtain ⟨y111, hy111⟩ : ∃ y_ : List Int, y_ = (y108 ++ [45]) := ⟨_, rfl⟩
              replace H : ((slices_Reverse_byte_byte.f k1 y111).bind fun t114 => (some (strOfNums t114))) = some r := by first | (rw [hy111]; with_reducible exact H) | (have H2_ := (Option.bind_some _ _).symm.trans H; rw [hy111]; with_reducible exact H2_) | (have H2_ := (Option.bind_some _ _).symm.trans H; with_reducible exact H2_) | with_reducible exact H | (rw [hy111]; exact H) | exact H
              have Ny111 := Aside0.mk hy111
              clear hy111
              replace H := Option.bind_eq_some_iff.mp H
              obtain ⟨t114, A70, H⟩ := H
              replace H : (some (strOfNums t114)) = some r := H
              have A7 := Aside0.mk A70
              clear A70
              obtain rfl := Option.some.inj H
              go_wp2_with (first | ((with_reducible refine gate_builtin (b := .append) (xs := #[.tmp 11, .tmp 18]) rfl ?_); at_builtin; refine Kd.R_append (Kd.int .u8) (w0 := w) w.heap.size rfl (.tmp 11) (.tmp 18) 22 5 (.int .u8 0) 1 rfl Tryd.underlying22 info5 rfl (by decide) (by omega) u3 x3_1 ((48 + (ji2)) % 256) [.int .u8 ((48 + (ji2)) % 256)] (fun _ => True) (fun _ => False) rfl rfl ?aP (fun _ hk => hk.elim) ?aF ?aO ?aB ?aS ?aL ?_; (case aP => exact rfl); (case aB => exact (by repeat (first | (with_reducible first | exact HB.out | apply below_alloc | apply pw_below_drewN | apply below_drew1) | exact HB.out))); (case aF => exact (fun _ _ => trivial)); (case aO => exact (by (with_reducible repeat (first | apply Kd.R_alloc | apply Kd.R_drewN | apply Kd.R_drew)); exact HO_3.out)); (case aS => exact (below_size (by repeat (first | (with_reducible first | exact HB.out | apply below_alloc | apply pw_below_drewN | apply below_drew1) | exact HB.out)))); (case aL => have := LMc3.out; omega); intro v109 w8 ho hb hg hat; rw [← Ny108.out] at ho; have n0_ := Aside0.mk (hb); have n1_ := Aside0.mk (ho); clear HB; clear HO_3; have HB := n0_; have HO110 := n1_; clear n0_ n1_; clear ho hb hg hat) | ((with_reducible refine gate_builtin (b := .append) (xs := #[.tmp 25, .tmp 26]) rfl ?_); at_builtin; refine Kd.R_append (Kd.int .u8) (w0 := w) w.heap.size rfl (.tmp 25) (.tmp 26) 22 5 (.int .u8 0) 1 rfl Tryd.underlying22 info5 rfl (by decide) (by omega) v109 y108 45 [.int .u8 45] (fun _ => True) (fun _ => False) rfl rfl ?aP (fun _ hk => hk.elim) ?aF ?aO ?aB ?aS ?aL ?_; (case aP => exact rfl); (case aB => exact (by repeat (first | (with_reducible first | exact HB.out | apply below_alloc | apply pw_below_drewN | apply below_drew1) | exact HB.out))); (case aF => exact (fun _ _ => trivial)); (case aO => exact (by (with_reducible repeat (first | apply Kd.R_alloc | apply Kd.R_drewN | apply Kd.R_drew)); exact HO110.out)); (case aS => exact (below_size (by repeat (first | (with_reducible first | exact HB.out | apply below_alloc | apply pw_below_drewN | apply below_drew1) | exact HB.out)))); (case aL => have := LMc6.out; omega); intro v112 w9 ho hb hg hat; rw [← Ny111.out] at ho; have n0_ := Aside0.mk (hb); have n1_ := Aside0.mk (ho); clear HB; clear HO110; have HB := n0_; have HO113 := n1_; clear n0_ n1_; clear ho hb hg hat; obtain ⟨Ao10, co10, eo10⟩ := Kd.R_slice HO113.out; subst eo10) | ((with_reducible refine gate_callee (f := 127) rfl ?_); refine goesL_ (some 29) rfl rfl Tryd.func127 (by kernel_rfl) rfl #[.slice Ao10 y111.length co10] rfl (by (try simp only [List.map_toArray, List.map_cons, List.map_nil]); first | done | rfl | (simp only [List.length_drop, List.length_take]; rfl)) ?_; (with_reducible refine (slices_Reverse_byte_byte.calls k1 (fun k_ => some k_ = (.slice Ao10 y111.length co10 : Value).ownBlock) (.slice Ao10 y111.length co10) y111 t114 w _ ?side1 ?side2 A7.out).mono ?_); (case side1 => repeat (first | (with_reducible first | exact HB.out | apply below_alloc | apply pw_below_drewN | apply below_drew1) | exact HB.out)); (case side2 => exact Kd.R_tight rfl HO113.out); rintro e w11 ⟨rfl, hy0, hb, hkp⟩; refine ⟨_, rfl, ?_⟩; have n0_ := Aside0.mk (Kd.R_reok rfl hy0 (fun k_ e_ => HO113.out.1 k_ e_)); have n1_ := Aside0.mk (hb); clear HO113; clear HB; have HO113 := n0_; have HB := n1_; clear n0_ n1_; (try clear hb); (try clear hkp); (try clear hy0); have hcv12 := own_string (P := Tryd.prog) Tryd.underlying22 Tryd.underlying5 Tryd.underlying9 (Kd.own_of_R HO113.out)))
              go_ret
              exact ⟨by first | rfl | (simp [errW_none, errW_some] <;> rfl) | (simp only [← hji2]; first | rfl | (simp [errW_none, errW_some] <;> rfl)) | (simp [*, errW_none, errW_some] <;> rfl), by repeat (first | (with_reducible first | exact HB.out | apply below_alloc | apply pw_below_drewN | apply below_drew1) | exact HB.out)⟩
            · rw [if_neg c6] at H
              exact absurd H (by simp)
          · rw [if_neg c5] at H
            have c5b0 : decide (a0 < 0) = false := decide_eq_false c5
            clear c5
            replace H := Option.bind_eq_some_iff.mp H
            obtain ⟨t115, A130, H⟩ := H
            replace H : (some (strOfNums t115)) = some r := H
            have A13 := Aside0.mk A130
            clear A130
            obtain rfl := Option.some.inj H
            go_wp2_with (first | ((with_reducible refine gate_builtin (b := .append) (xs := #[.tmp 11, .tmp 18]) rfl ?_); at_builtin; refine Kd.R_append (Kd.int .u8) (w0 := w) w.heap.size rfl (.tmp 11) (.tmp 18) 22 5 (.int .u8 0) 1 rfl Tryd.underlying22 info5 rfl (by decide) (by omega) u3 x3_1 ((48 + (ji2)) % 256) [.int .u8 ((48 + (ji2)) % 256)] (fun _ => True) (fun _ => False) rfl rfl ?aP (fun _ hk => hk.elim) ?aF ?aO ?aB ?aS ?aL ?_; (case aP => exact rfl); (case aB => exact (by repeat (first | (with_reducible first | exact HB.out | apply below_alloc | apply pw_below_drewN | apply below_drew1) | exact HB.out))); (case aF => exact (fun _ _ => trivial)); (case aO => exact (by (with_reducible repeat (first | apply Kd.R_alloc | apply Kd.R_drewN | apply Kd.R_drew)); exact HO_3.out)); (case aS => exact (below_size (by repeat (first | (with_reducible first | exact HB.out | apply below_alloc | apply pw_below_drewN | apply below_drew1) | exact HB.out)))); (case aL => have := LMc3.out; omega); intro v109 w14 ho hb hg hat; rw [← Ny108.out] at ho; have n0_ := Aside0.mk (hb); have n1_ := Aside0.mk (ho); clear HB; clear HO_3; have HB := n0_; have HO110 := n1_; clear n0_ n1_; clear ho hb hg hat; obtain ⟨Ao15, co15, eo15⟩ := Kd.R_slice HO110.out; subst eo15) | ((with_reducible refine gate_callee (f := 127) rfl ?_); refine goesL_ (some 29) rfl rfl Tryd.func127 (by kernel_rfl) rfl #[.slice Ao15 y108.length co15] rfl (by (try simp only [List.map_toArray, List.map_cons, List.map_nil]); first | done | rfl | (simp only [List.length_drop, List.length_take]; rfl)) ?_; (with_reducible refine (slices_Reverse_byte_byte.calls k1 (fun k_ => some k_ = (.slice Ao15 y108.length co15 : Value).ownBlock) (.slice Ao15 y108.length co15) y108 t115 w _ ?side1 ?side2 A13.out).mono ?_); (case side1 => repeat (first | (with_reducible first | exact HB.out | apply below_alloc | apply pw_below_drewN | apply below_drew1) | exact HB.out)); (case side2 => exact Kd.R_tight rfl HO110.out); rintro e w16 ⟨rfl, hy0, hb, hkp⟩; refine ⟨_, rfl, ?_⟩; have n0_ := Aside0.mk (Kd.R_reok rfl hy0 (fun k_ e_ => HO110.out.1 k_ e_)); have n1_ := Aside0.mk (hb); clear HO110; clear HB; have HO110 := n0_; have HB := n1_; clear n0_ n1_; (try clear hb); (try clear hkp); (try clear hy0); have hcv17 := own_string (P := Tryd.prog) Tryd.underlying22 Tryd.underlying5 Tryd.underlying9 (Kd.own_of_R HO110.out)))
            go_ret
            exact ⟨by first | rfl | (simp [errW_none, errW_some] <;> rfl) | (simp only [← hji2]; first | rfl | (simp [errW_none, errW_some] <;> rfl)) | (simp [*, errW_none, errW_some] <;> rfl), by repeat (first | (with_reducible first | exact HB.out | apply below_alloc | apply pw_below_drewN | apply below_drew1) | exact HB.out)⟩
        · rw [if_neg c4] at H
          have c4b0 : ((wrap64 (Int.tdiv x4_1 10)) == 0) = false := beq_eq_false_iff_ne.mpr c4
          have c4b1 : ((wrap64 (Int.tdiv x4_1 10)) != 0) = true := bne_iff_ne.mpr c4
          have H' := Aside0.mk H
          clear H
          go_wp2_with (first | ((with_reducible refine gate_builtin (b := .append) (xs := #[.tmp 11, .tmp 18]) rfl ?_); at_builtin; refine Kd.R_append (Kd.int .u8) (w0 := w) w.heap.size rfl (.tmp 11) (.tmp 18) 22 5 (.int .u8 0) 1 rfl Tryd.underlying22 info5 rfl (by decide) (by omega) u3 x3_1 ((48 + (ji2)) % 256) [.int .u8 ((48 + (ji2)) % 256)] (fun _ => True) (fun _ => False) rfl rfl ?aP (fun _ hk => hk.elim) ?aF ?aO ?aB ?aS ?aL ?_; (case aP => exact rfl); (case aB => exact (by repeat (first | (with_reducible first | exact HB.out | apply below_alloc | apply pw_below_drewN | apply below_drew1) | exact HB.out))); (case aF => exact (fun _ _ => trivial)); (case aO => exact (by (with_reducible repeat (first | apply Kd.R_alloc | apply Kd.R_drewN | apply Kd.R_drew)); exact HO_3.out)); (case aS => exact (below_size (by repeat (first | (with_reducible first | exact HB.out | apply below_alloc | apply pw_below_drewN | apply below_drew1) | exact HB.out)))); (case aL => have := LMc3.out; omega); intro v109 w18 ho hb hg hat; rw [← Ny108.out] at ho; have n0_ := Aside0.mk (hb); have n1_ := Aside0.mk (ho); clear HB; clear HO_3; have HB := n0_; have HO110 := n1_; clear n0_ n1_; clear ho hb hg hat))
          go_roundg k1
          case measure => have := HK1.out; omega
          case rel => exact ⟨(y108), (wrap64 (Int.tdiv x4_1 10)), (by first | rfl | (simp; done) | (simp [*]; done)), H', ⟨by have := HK1.out; omega⟩, ⟨by (with_reducible repeat (first | apply Kd.R_alloc | apply Kd.R_drewN | apply Kd.R_drew)); exact HO110.out⟩, ⟨by repeat (first | (with_reducible first | exact HB.out | apply below_alloc | apply pw_below_drewN | apply below_drew1) | exact HB.out)⟩⟩
      · rw [if_neg c3] at H
        exact absurd H (by simp)

end Go.Proofs.YtmlbfepibfobaaaDoor.Q5
end

section
-- Written by this session's program layer.py (the kit's print, turned), not by hand.
namespace Go.Proofs.YtmlbfepibfobaaaDoor.Q5
open Go.RowKit Go.Proofs.YtmlbfepibfobaaaDoorW.PrintWords Go.Proofs.YtmlbfepibfobaaaDoorW.PrintLast Go.Proofs.YtmlbfepibfobaaaDoorW.PrintMore Go.Proofs.YtmlbfepibfobaaaDoor.Hand
attribute [local go_sem] max2_int min2_int max_two min_two max_three min_three max_four min_four   -- for this text's walks alone
set_option linter.unusedVariables false
set_option linter.unusedSimpArgs false

end Go.Proofs.YtmlbfepibfobaaaDoor.Q5
end

section
namespace Go.Proofs.YtmlbfepibfobaaaDoor.Hand
open Go.RowKit Go.Proofs.YtmlbfepibfobaaaDoorW.PrintWords Go.Proofs.YtmlbfepibfobaaaDoorW.PrintLast Go.Proofs.YtmlbfepibfobaaaDoorW.PrintMore
set_option linter.unusedVariables false
set_option linter.unusedSimpArgs false

/-! ### word.Split -/
def word_Split.f (s : ByteArray) : Option (ByteArray × ByteArray × Bool) := secateurref04_Split.f s
theorem lastAt_lt (s : ByteArray) (c : Int) : ∀ k i, lastAt s c k = some i → i < k
  | 0, i, h => by cases h
  | k + 1, i, h => by
    unfold lastAt at h
    split at h
    · cases h; omega
    · have := lastAt_lt s c k i h; omega
theorem class_some {s : ByteArray} (h : s.size ≤ 9223372036854775807) : word_Class.f s = some (classL s.data.toList) := by unfold word_Class.f; rw [if_pos h]
theorem name_some {s : ByteArray} (h : s.size ≤ 9223372036854775807) : word_Name.f s = some (nameL s.data.toList) := by unfold word_Name.f; rw [if_pos h]
theorem split_eq (s : ByteArray) (hs : s.size ≤ 4611686018427387903) : Q5.word_Split.f s = some (splitB s) := by
  unfold Q5.word_Split.f strings_LastIndexByte.f splitB lastI
  rw [if_pos hs, Option.bind_some]
  cases h : lastAt s 46 s.size with
  | none => simp
  | some i =>
    have hi := lastAt_lt s 46 _ _ h
    have e2 : ((i : Int) + 1).toNat = i + 1 := by omega
    have z1 := extract_size s 0 i
    have z2 := extract_size s (i + 1) s.size
    simp only
    rw [if_neg (by omega), if_pos (by omega), if_pos (by omega), Int.toNat_natCast, wrap_in (by omega) (by omega), e2, class_some (by omega), Option.bind_some]
    cases classL (s.extract 0 i).data.toList with
    | true =>
      rw [if_pos rfl, if_pos (by omega), if_pos (by omega), name_some (by omega), Option.bind_some]
      cases nameL (s.extract (i + 1) s.size).data.toList with
      | true => rfl
      | false => rfl
    | false => rfl
theorem word_Split.calls (a0 : ByteArray) (r1 : ByteArray) (r2 : ByteArray) (r3 : Bool) (w : World) (h : word_Split.f a0 = some (r1, r2, r3)) :
    Calls Tryd.prog 96 #[.string a0] w fun e w' => e = .returned (.tuple #[.string r1, .string r2, .bool r3]) ∧ Drawn0 w w' := by
  unfold word_Split.f secateurref04_Split.f at h
  split at h
  · rename_i hs
    exact Q5.word_Split.calls a0 r1 r2 r3 w ((split_eq a0 hs).trans h)
  · cases h

/-! ### Parse -/
def word_Parse.f (s : ByteArray) : Option (Int × Int) := if s.size ≤ 4611686018427387903 then some (parseL (bl s)) else none
def secateurref04_Parse.f (s : ByteArray) : Option (Int × Int) := word_Parse.f s
theorem bt_bl (s : ByteArray) (i : Nat) (h : i < s.size) : ∃ b, (bl s)[i]? = some b ∧ bt s i = (b.toNat : Int) ∧ (bl s).drop i = b :: (bl s).drop (i + 1) := by
  refine ⟨s[i], ?_, bt_nat s i h, drop_data s i h⟩
  unfold bl
  rw [List.getElem?_eq_getElem (by rw [Array.length_toList]; exact h), get_data s i h]
theorem dig_bt {b : UInt8} {x : Int} (h : x = (b.toNat : Int)) : digB b = (!decide (x < 48) && !decide (x > 57)) := by
  unfold digB
  rw [Bool.eq_iff_iff]
  simp
  omega
/-- What the loop's number says of what has been read. -/
def cap (v : Nat) : Int := if v > 65536 then 65537 else v
theorem cap_step (v : Nat) (b : UInt8) (h : digB b = true) : mn (wrap64 (wrap64 (cap v * 10) + (((b.toNat : Int) - 48) % 256))) 65537 = cap (valF v b) := by
  unfold digB at h
  have h := of_decide_eq_true h
  unfold cap valF wrap64 mn
  split <;> split <;> split <;> omega
theorem parse_fin (l : List UInt8) (v : Nat) : (if cap v > 65536 then (some ((0 : Int), (12 : Int))) else some (cap v, 0)) = some (if v > 65536 then ((0 : Int), (12 : Int)) else ((v : Int), 0)) := by
  unfold cap
  split
  · rw [if_pos (by omega)]
  · rw [if_neg (by omega)]
def parseV (l : List UInt8) (v : Nat) : Int × Int := if l.all digB = true then (if l.foldl valF v > 65536 then (0, 12) else (((l.foldl valF v : Nat) : Int), 0)) else (0, 1)
theorem parse_loop (s : ByteArray) (hs : s.size ≤ 4611686018427387903) : ∀ (d i k v : Nat), s.size - i = d → i ≤ s.size → d < k →
    Q4.word_Parse.l0 k s (cap v) s.size i = some (parseV ((bl s).drop i) v) := by
  intro d
  unfold parseV
  induction d with
  | zero =>
    intro i k v hd hi hk
    obtain ⟨k, rfl⟩ : ∃ j, k = j + 1 := ⟨k - 1, by omega⟩
    rw [Q4.word_Parse.l0, if_neg (by omega), List.drop_of_length_le (by rw [bl_len]; omega), parse_fin []]
    rfl
  | succ d ih =>
    intro i k v hd hi hk
    obtain ⟨k, rfl⟩ : ∃ j, k = j + 1 := ⟨k - 1, by omega⟩
    have hlt : i < s.size := by omega
    obtain ⟨b, _, hb, hdr⟩ := bt_bl s i hlt
    have hg := dig_bt hb
    rw [Q4.word_Parse.l0, if_pos (by omega), if_pos (by omega), if_pos (by omega), hdr, List.all_cons, List.foldl_cons]
    by_cases h1 : bt s i < 48
    · rw [if_pos h1, hg, decide_eq_true h1]
      rfl
    · by_cases h2 : bt s i > 57
      · rw [if_neg h1, if_pos h2, hg, decide_eq_true h2, decide_eq_false h1]
        rfl
      · have hd1 : digB b = true := by rw [hg, decide_eq_false h1, decide_eq_false h2]; rfl
        have ih := ih (i + 1) k (valF v b) (by omega) (by omega) (by omega)
        push_cast at ih
        rw [if_neg h1, if_neg h2, hb, cap_step v b hd1, wrap_in (by omega) (by omega), ih, hd1, Bool.true_and]
theorem head_bt (s : ByteArray) (h : 0 < s.size) : ∃ b, (bl s).head? = some b ∧ bt s 0 = (b.toNat : Int) := by
  obtain ⟨b, h1, h2, _⟩ := bt_bl s 0 h
  exact ⟨b, by rw [List.head?_eq_getElem?]; exact h1, h2⟩
theorem u8_48 {b : UInt8} : (b.toNat : Int) = 48 ↔ b = 48 := by
  constructor
  · intro h
    apply UInt8.toNat.inj
    have : (48 : UInt8).toNat = 48 := rfl
    omega
  · rintro rfl; rfl
theorem isEmpty_bl (s : ByteArray) : (bl s).isEmpty = decide (s.size = 0) := by
  rw [Bool.eq_iff_iff, List.isEmpty_iff, decide_eq_true_iff, ← bl_len, List.length_eq_zero_iff]
theorem parse_eq (s : ByteArray) (hs : s.size ≤ 4611686018427387903) : Q4.word_Parse.f (s.size + 2) s = some (parseL (bl s)) := by
  unfold Q4.word_Parse.f parseL formB
  have hl := parse_loop s hs s.size 0 (s.size + 1) 0 rfl (by omega) (by omega)
  rw [List.drop_zero] at hl
  have hj : Q4.word_Parse.j0 (s.size + 2) s false = some (parseV (bl s) 0) := by
    rw [Q4.word_Parse.j0, if_neg (by decide)]
    exact hl
  have hv : parseV (bl s) 0 = if (bl s).all digB = true then (if valL (bl s) > 65536 then ((0 : Int), (12 : Int)) else ((valL (bl s) : Int), 0)) else (0, 1) := rfl
  rw [hv] at hj
  have hj1 : Q4.word_Parse.j0 (s.size + 2) s true = some (0, 1) := by rw [Q4.word_Parse.j0, if_pos rfl]
  rw [ByteArray.toList_eq, show s.data.toList = bl s from rfl]
  by_cases h0 : s.size = 0
  · have he : bl s = [] := by rw [← List.length_eq_zero_iff, bl_len, h0]
    rw [if_pos he, hj1, he]
    rfl
  · have hne : bl s ≠ [] := by intro e; apply h0; rw [← bl_len]; exact congrArg List.length e
    obtain ⟨b, hb, hbt⟩ := head_bt s (by omega)
    rw [if_neg hne, if_pos (by omega), hbt, hb, isEmpty_bl, decide_eq_false h0]
    by_cases h48 : (b.toNat : Int) = 48
    · have hb48 := u8_48.1 h48
      rw [if_pos h48, hb48]
      by_cases h1 : bl s = [48]
      · have : (bl s != [48]) = false := by rw [bne_eq_false_iff_eq]; exact h1
        rw [this, hj, h1]
        decide
      · have : (bl s != [48]) = true := by rw [bne_iff_ne]; exact h1
        rw [this, hj1]
        have h2 : (bl s == [48]) = false := beq_eq_false_iff_ne.2 h1
        rw [h2]
        simp
    · have hb48 : b ≠ 48 := fun e => h48 (u8_48.2 e)
      rw [if_neg h48, hj]
      have : ((some b != some (48 : UInt8)) || bl s == [48]) = true := by simp [bne, hb48]
      rw [this]
      simp
theorem word_Parse.calls (a0 : ByteArray) (r1 r2 : Int) (w : World) (h : word_Parse.f a0 = some (r1, r2)) :
    Calls Tryd.prog 97 #[.string a0] w fun e w' => e = .returned (.tuple #[.int .i64 r1, .int .i64 r2]) ∧ Below w.heap.size w w' := by
  unfold word_Parse.f at h
  split at h
  · rename_i hs
    exact Q4.word_Parse.calls _ a0 r1 r2 w ((parse_eq a0 hs).trans h)
  · cases h

end Go.Proofs.YtmlbfepibfobaaaDoor.Hand
end

section
namespace Go.Proofs.YtmlbfepibfobaaaDoor.Hand
open Go.RowKit Go.Proofs.YtmlbfepibfobaaaDoorW.PrintWords Go.Proofs.YtmlbfepibfobaaaDoorW.PrintLast Go.Proofs.YtmlbfepibfobaaaDoorW.PrintMore
set_option linter.unusedVariables false
set_option linter.unusedSimpArgs false

/-! ### slices.Reverse -/
theorem rd_append (A B : List Int) (x : Int) : rd (A ++ x :: B) (A.length : Int) = x := by simp [rd]
theorem rev_loop : ∀ (n : Nat) (M A B : List Int) (k : Nat), M.length ≤ n → A.length = B.length → (A ++ M ++ B).length ≤ 9223372036854775807 → n < k →
    Q5.slices_Reverse_byte_byte.l0 k (A ++ M ++ B) (A.length : Int) ((A.length : Int) + M.length - 1) = some (A ++ M.reverse ++ B) := by
  intro n
  induction n with
  | zero =>
    intro M A B k hn hl hb hk
    obtain ⟨k, rfl⟩ : ∃ j, k = j + 1 := ⟨k - 1, by omega⟩
    have : M = [] := List.length_eq_zero_iff.1 (by omega)
    subst this
    rw [Q5.slices_Reverse_byte_byte.l0, if_neg (by simp; omega)]
    rfl
  | succ n ih =>
    intro M A B k hn hl hb hk
    obtain ⟨k, rfl⟩ : ∃ j, k = j + 1 := ⟨k - 1, by omega⟩
    match M with
    | [] =>
      rw [Q5.slices_Reverse_byte_byte.l0, if_neg (by simp; omega)]
      rfl
    | [x] =>
      rw [Q5.slices_Reverse_byte_byte.l0, if_neg (by simp)]
      rfl
    | x :: y :: M' =>
      obtain ⟨M2, z, hz⟩ : ∃ M2 z, y :: M' = M2 ++ [z] := ⟨(y :: M').dropLast, (y :: M').getLast (by simp), (List.dropLast_concat_getLast (by simp)).symm⟩
      have hl2 : M2.length = M'.length := by have := congrArg List.length hz; simp at this; omega
      rw [hz] at hb ⊢
      simp only [List.length_append, List.length_cons, List.length_nil] at hb hn
      have e0 : (x :: (M2 ++ [z])).length = M2.length + 2 := by simp
      have ej : ((A.length : Int) + ((x :: (M2 ++ [z])).length : Nat) - 1) = ((A.length + M2.length + 1 : Nat) : Int) := by rw [e0]; omega
      have r1 : rd (A ++ x :: (M2 ++ [z]) ++ B) ((A.length + M2.length + 1 : Nat) : Int) = z := by
        have := rd_append (A ++ x :: M2) B z
        have e1 : A ++ x :: (M2 ++ [z]) ++ B = (A ++ x :: M2) ++ z :: B := by simp
        have e2 : (A ++ x :: M2).length = A.length + M2.length + 1 := by simp; omega
        rw [e1, ← e2]
        exact this
      have r2 : rd (A ++ x :: (M2 ++ [z]) ++ B) ((A.length : Nat) : Int) = x := by
        have := rd_append A (M2 ++ [z] ++ B) x
        have e1 : A ++ x :: (M2 ++ [z]) ++ B = A ++ x :: (M2 ++ [z] ++ B) := by simp
        rw [e1]
        exact this
      have s1 : ((A ++ x :: (M2 ++ [z]) ++ B).set A.length z).set (A.length + M2.length + 1) x = (A ++ [z]) ++ M2 ++ (x :: B) := by
        have e1 : A ++ x :: (M2 ++ [z]) ++ B = A ++ (x :: (M2 ++ z :: B)) := by simp
        rw [e1, List.set_append_right A.length z (by omega), Nat.sub_self, List.set_cons_zero]
        have e2 : A ++ z :: (M2 ++ z :: B) = (A ++ z :: M2) ++ (z :: B) := by simp
        rw [e2, List.set_append_right _ x (by simp; omega)]
        have e3 : A.length + M2.length + 1 - (A ++ z :: M2).length = 0 := by simp; omega
        rw [e3, List.set_cons_zero]
        simp
      rw [Q5.slices_Reverse_byte_byte.l0, ej, if_pos (by omega), if_pos (by omega), if_pos (by simp; omega), if_pos (by omega), if_pos (by simp; omega), r1, r2, Int.toNat_natCast, Int.toNat_natCast, s1, wrap_in (by omega) (by omega), wrap_in (by omega) (by omega)]
      have ih := ih M2 (A ++ [z]) (x :: B) k (by omega) (by simp [hl]) (by simp; omega) (by omega)
      have e5 : ((A ++ [z]).length : Int) = (A.length : Int) + 1 := by simp
      rw [e5] at ih
      have e6 : (A.length : Int) + 1 + M2.length - 1 = ((A.length + M2.length + 1 : Nat) : Int) - 1 := by omega
      rw [e6] at ih
      rw [ih]
      have e7 : (x :: (M2 ++ [z])).reverse = z :: (M2.reverse ++ [x]) := by simp
      rw [e7]
      simp
theorem rev_eq (l : List Int) (h : l.length ≤ 9223372036854775807) : Q5.slices_Reverse_byte_byte.f (l.length + 1) l = some l.reverse := by
  unfold Q5.slices_Reverse_byte_byte.f
  rw [wrap_in (by omega) (by omega)]
  have := rev_loop l.length l [] [] (l.length + 1) (Nat.le_refl _) rfl (by simpa using h) (by omega)
  simpa using this

/-! ### word.Digits -/
def word_Digits.f (n : Int) : Option ByteArray := if -9223372036854775808 ≤ n ∧ n ≤ 9223372036854775807 then some (lb (digitsL n)) else none
def intsOf (l : List UInt8) : List Int := l.map fun b => (b.toNat : Int)
theorem intsOf_append (a b : List UInt8) : intsOf (a ++ b) = intsOf a ++ intsOf b := by simp [intsOf]
theorem intsOf_reverse (a : List UInt8) : (intsOf a).reverse = intsOf a.reverse := by simp [intsOf]
theorem str_ints (l : List UInt8) : strOfNums (intsOf l) = lb l := by
  unfold strOfNums lb intsOf
  rw [List.map_map, show l.map ((fun n => UInt8.ofNat (Int.toNat n)) ∘ fun b => ((b.toNat : Nat) : Int)) = l.map id from List.map_congr_left fun b _ => by simp, List.map_id]
theorem dig_abs (x : Int) : mx (Int.tmod x 10) (wrap64 (-(Int.tmod x 10))) = ((x.natAbs % 10 : Nat) : Int) := by
  unfold mx wrap64
  have h1 := Int.tmod_lt_of_pos x (by decide : (0 : Int) < 10)
  have h2 : (Int.tmod x 10).natAbs = x.natAbs % 10 := by rw [Int.natAbs_tmod]; rfl
  split <;> omega
theorem div_abs (x : Int) (h0 : -9223372036854775808 ≤ x) (h1 : x ≤ 9223372036854775807) : wrap64 (Int.tdiv x 10) = Int.tdiv x 10 ∧ (Int.tdiv x 10).natAbs = x.natAbs / 10 ∧ -9223372036854775808 ≤ Int.tdiv x 10 ∧ Int.tdiv x 10 ≤ 9223372036854775807 := by
  have h2 : (Int.tdiv x 10).natAbs = x.natAbs / 10 := by rw [Int.natAbs_tdiv]; rfl
  have h3 : -9223372036854775808 ≤ Int.tdiv x 10 ∧ Int.tdiv x 10 ≤ 9223372036854775807 := by omega
  exact ⟨wrap_in h3.1 (by omega), h2, h3.1, h3.2⟩
theorem digC_int (d : Nat) (h : d < 10) : ((digC d).toNat : Int) = (48 + (d : Int)) % 256 := by
  rw [(dig_of h).2]
  omega
def signL (n : Int) (l : List UInt8) : List UInt8 := if n < 0 then 45 :: l else l
theorem digits_loop (a0 : Int) : ∀ (f : Nat) (x : Int) (l : List UInt8) (k : Nat), x.natAbs < 10 ^ f → 0 < f → l.length + f ≤ 30 → -9223372036854775808 ≤ x → x ≤ 9223372036854775807 → f + 50 < k →
    Q5.word_Digits.l0 k a0 (intsOf l) x = some (lb (signL a0 (l ++ decR f x.natAbs).reverse)) := by
  intro f
  induction f with
  | zero => intro x l k _ h; omega
  | succ f ih =>
    intro x l k hx _ hl h0 h1 hk
    obtain ⟨k, rfl⟩ : ∃ j, k = j + 1 := ⟨k - 1, by omega⟩
    obtain ⟨d1, d2, d3, d4⟩ := div_abs x h0 h1
    have hm : x.natAbs % 10 < 10 := Nat.mod_lt _ (by decide)
    have hlen : (intsOf l).length = l.length := by simp [intsOf]
    have hy : intsOf l ++ [(48 + ((x.natAbs % 10 : Nat) : Int)) % 256] = intsOf (l ++ [digC (x.natAbs % 10)]) := by
      rw [intsOf_append, ← digC_int _ hm]
      rfl
    have hrev : ∀ (m : List UInt8), m.length ≤ 40 → Q5.slices_Reverse_byte_byte.f k (intsOf m) = some (intsOf m.reverse) := by
      intro m hm2
      have hl3 : (intsOf m).length = m.length := by simp [intsOf]
      have := rev_eq (intsOf m) (by rw [hl3]; omega)
      rw [intsOf_reverse] at this
      exact mono_le (f := fun k => Q5.slices_Reverse_byte_byte.f k (intsOf m)) (fun k => Q5.slices_Reverse_byte_byte.mono _ k) (show (intsOf m).length + 1 ≤ k by rw [hl3]; omega) this
    rw [Q5.word_Digits.l0, if_pos (by rw [hlen]; omega), dig_abs, Option.bind_some, hy, d1]
    by_cases hz : Int.tdiv x 10 = 0
    · have hsm : x.natAbs < 10 := by rw [hz] at d2; simp at d2; omega
      have e1 : x.natAbs % 10 = x.natAbs := Nat.mod_eq_of_lt hsm
      have e2 : decR (f + 1) x.natAbs = [digC (x.natAbs % 10)] := by rw [decR, if_pos hsm, e1]
      rw [if_pos hz, e2]
      unfold signL
      have hl4 : (l ++ [digC (x.natAbs % 10)]).length ≤ 31 := by simp; omega
      by_cases hs : a0 < 0
      · have e3 : intsOf (l ++ [digC (x.natAbs % 10)]) ++ [45] = intsOf (l ++ [digC (x.natAbs % 10)] ++ [45]) := by rw [intsOf_append (l ++ [digC (x.natAbs % 10)])]; rfl
        rw [if_pos hs, if_pos hs, if_pos (by simp [intsOf]; omega), e3, hrev _ (by rw [List.length_append]; simp at hl4 ⊢; omega), Option.bind_some, str_ints]
        simp
      · rw [if_neg hs, if_neg hs, hrev _ (by omega), Option.bind_some, str_ints]
    · have hbig : ¬ x.natAbs < 10 := by
        intro h
        apply hz
        have : (Int.tdiv x 10).natAbs = 0 := by rw [d2]; omega
        omega
      have e2 : decR (f + 1) x.natAbs = digC (x.natAbs % 10) :: decR f (x.natAbs / 10) := by rw [decR, if_neg hbig]
      have hf : 0 < f := by
        rcases Nat.eq_zero_or_pos f with h | h
        · subst h; simp at hx; omega
        · exact h
      have ih := ih (Int.tdiv x 10) (l ++ [digC (x.natAbs % 10)]) k (by rw [d2]; rw [Nat.pow_succ] at hx; omega) hf (by simp; omega) d3 d4 (by omega)
      rw [if_neg hz, ih, d2, e2]
      simp
theorem digits_eq (n : Int) (h0 : -9223372036854775808 ≤ n) (h1 : n ≤ 9223372036854775807) : Q5.word_Digits.f 100 n = some (lb (digitsL n)) := by
  have hp : (10 : Nat) ^ 20 = 100000000000000000000 := by decide
  have := digits_loop n 20 n [] 100 (by omega) (by decide) (by decide) h0 h1 (by decide)
  exact this
theorem word_Digits.calls (a0 : Int) (r : ByteArray) (w : World) (h : word_Digits.f a0 = some r) :
    Calls Tryd.prog 100 #[.int .i64 a0] w fun e w' => e = .returned (.string r) ∧ Below w.heap.size w w' := by
  unfold word_Digits.f at h
  split at h
  · rename_i hs
    exact Q5.word_Digits.calls 100 a0 r w ((digits_eq a0 hs.1 hs.2).trans h)
  · cases h
end Go.Proofs.YtmlbfepibfobaaaDoor.Hand
end

section
namespace Go.Proofs.YtmlbfepibfobaaaDoor.Hand
open Go.RowKit Go.Proofs.YtmlbfepibfobaaaDoorW.PrintWords Go.Proofs.YtmlbfepibfobaaaDoorW.PrintLast Go.Proofs.YtmlbfepibfobaaaDoorW.PrintMore
set_option linter.unusedVariables false
set_option linter.unusedSimpArgs false

end Go.Proofs.YtmlbfepibfobaaaDoor.Hand
end

section
namespace Go.Proofs.YtmlbfepibfobaaaDoor.Hand
open Go.RowKit Go.Proofs.YtmlbfepibfobaaaDoorW.PrintWords Go.Proofs.YtmlbfepibfobaaaDoorW.PrintLast Go.Proofs.YtmlbfepibfobaaaDoorW.PrintMore
set_option linter.unusedVariables false
set_option linter.unusedSimpArgs false

/-! ### word.plain -/
def oddR (x : Nat) : Bool := decide (x < 32) || decide (126 < x)
theorem plain_idx (s : ByteArray) : ∀ (f pos : Nat), s.size - pos ≤ f → (Lib.idxFuncFrom oddR true s f pos < 0 ↔ ((bl s).drop pos).all seen = true) := by
  intro f
  induction f with
  | zero =>
    intro pos h
    rw [List.drop_of_length_le (by rw [bl_len]; omega)]
    simp [Lib.idxFuncFrom]
  | succ f ih =>
    intro pos h
    by_cases hp : pos < s.size
    · obtain ⟨b, hb1, hb2, hdr⟩ := bt_bl s pos hp
      have hbs : s[pos].toNat = b.toNat := by have := bt_nat s pos hp; rw [hb2] at this; omega
      rw [Lib.idxFuncFrom, if_pos hp, hdr, List.all_cons]
      by_cases ha : b.toNat < 128
      · have hd := decode_ascii s pos hp (by rw [hbs]; exact ha)
        rw [hd, hbs]
        by_cases ho : oddR b.toNat = true
        · rw [if_pos ho]
          have : seen b = false := by
            unfold oddR at ho
            unfold seen
            simp at ho ⊢
            omega
          rw [this]
          simp
        · rw [if_neg ho]
          have : seen b = true := by
            unfold oddR at ho
            unfold seen
            simp at ho ⊢
            omega
          rw [this, Bool.true_and]
          exact ih (pos + 1) (by omega)
      · have hd := (decode_high s pos hp (by rw [hbs]; omega)).1
        have ho : oddR (Utf8.decode s pos).1 = true := by unfold oddR; simp; omega
        have : seen b = false := by unfold seen; simp; omega
        rw [if_pos ho, this]
        simp
    · rw [Lib.idxFuncFrom, if_neg hp, List.drop_of_length_le (by rw [bl_len]; omega)]
      simp
theorem plain_iff (s : ByteArray) : decide (Lib.idxFunc oddR true s < 0) = (bl s).all seen := by
  have := plain_idx s s.size 0 (by omega)
  rw [List.drop_zero] at this
  rw [Bool.eq_iff_iff, decide_eq_true_iff]
  exact this
set_option maxHeartbeats 8000000 in
set_option maxRecDepth 100000 in
theorem plain_pred (w : World) : PredAt Tryd.prog 131 #[] encR oddR w := fun W r _ => by
  unfold FnGives
  show Calls Tryd.prog 131 #[.int .i32 (r : Int)] W _
  by_cases h1 : r < 32
  · have hv : Aside0 (oddR r = true) := ⟨by unfold oddR; simp; omega⟩
    have h2 : decide ((r : Int) < 32) = true := decide_eq_true (by omega)
    clear h1
    go_enter Tryd.func131, Tryd.ntmps131
    go_wp2
    go_ret
    exact ⟨by rw [hv.out]; rfl, 0, rfl⟩
  · have h2 : decide ((r : Int) < 32) = false := decide_eq_false (by omega)
    by_cases h3 : 126 < r
    · have hv : Aside0 (oddR r = true) := ⟨by unfold oddR; simp; omega⟩
      have h4 : decide ((126 : Int) < (r : Int)) = true := decide_eq_true (by omega)
      clear h1 h3
      go_enter Tryd.func131, Tryd.ntmps131
      go_wp2
      go_ret
      exact ⟨by rw [hv.out]; rfl, 0, rfl⟩
    · have hv : Aside0 (oddR r = false) := ⟨by unfold oddR; simp; omega⟩
      have h4 : decide ((126 : Int) < (r : Int)) = false := decide_eq_false (by omega)
      clear h1 h3
      go_enter Tryd.func131, Tryd.ntmps131
      go_wp2
      go_ret
      exact ⟨by rw [hv.out]; rfl, 0, rfl⟩
def word_plain.f (s : ByteArray) : Option Bool := some ((bl s).all seen)
set_option maxHeartbeats 8000000 in
set_option maxRecDepth 100000 in
theorem word_plain.calls (a0 : ByteArray) (r : Bool) (w : World) (h : word_plain.f a0 = some r) :
    Calls Tryd.prog 102 #[.string a0] w fun e w' => e = .returned (.bool r) ∧ Below w.heap.size w w' := by
  obtain rfl := Option.some.inj h
  clear h
  have HW := Aside0.mk (Tryd.strings_IndexFunc 131 #[] (by intro args w; rfl) oddR a0 w (plain_pred w))
  have HV := Aside0.mk (plain_iff a0)
  obtain ⟨x, hx⟩ : ∃ x, x = Lib.idxFunc oddR true a0 := ⟨_, rfl⟩
  rw [← hx] at HW HV
  clear hx
  go_enter Tryd.func102, Tryd.ntmps102
  go_wp2_with fail
  refine HW.out.mono ?_
  rintro e w1 ⟨rfl, hb⟩
  go_wp2
  go_ret
  exact ⟨by rw [← HV.out]; rfl, hb⟩
end Go.Proofs.YtmlbfepibfobaaaDoor.Hand
end

section
namespace Go.Proofs.YtmlbfepibfobaaaDoor.Hand
open Go.RowKit Go.Shelf
variable {F : Fence} {n : Nat} {P : Program} {α : Type}

/-! ### A range over a function that keeps a variable of its own in a box -/
/-- What the blocks of K hold is as it was. -/
def SameBlk (K : Nat → Prop) (X Y : World) : Prop := ∀ i, K i → Y.heap[i]? = X.heap[i]?
/-- A list's state abides whatever turns block b alone, and lays new ones. -/
def Holds {β : Type} (b : Nat) (J : β → World → Prop) : Prop := ∀ s X Y, J s X → X.grownBy Y (some b) → J s Y
/-- The iterator gf: between two rounds it turns its box b alone; a round that goes on leaves the blocks of K as they are. -/
def SeqBox (F : Fence) (n : Nat) (P : Program) (gf : Nat) (lb : Array Value) (encs : α → Array Value) (b N : Nat) (K : Nat → Prop) (A0 : World → Prop) (S Sp : List α → Prop) : Prop :=
  ∀ (l : Nat) (J Jx : List α → World → Prop) (W : World), A0 W → Holds b J → Holds b Jx →
    (∀ pre x X, J pre X → pre.length < N → YieldAt F (n - 1) P l (encs x) X fun e Y =>
      (e = .returned (.bool true) ∧ J (pre ++ [x]) Y ∧ SameBlk K X Y) ∨ (e = .returned (.bool false) ∧ Jx (pre ++ [x]) Y)) →
    J [] W →
    CallsIn F n P gf (#[.func (.yield l) #[] #[]] ++ lb) W fun e Y => (∃ v, e = .returned v) ∧ ((∃ xs, S xs ∧ J xs Y) ∨ (∃ pre, Sp pre ∧ Jx pre Y))
/-- The caller's state abides the loop's book-keeping (from block B on), too. -/
def HoldsAll {β : Type} (B b : Nat) (J : β → World → Prop) : Prop :=
  ∀ s X Y row, J s X → X.grownBy Y row → (∀ r, row = some r → r = b ∨ (B ≤ r ∧ ∃ o : Obj, X.heap[r]? = some o ∧ o.isCells = false)) → J s Y
theorem HoldsAll.box {β : Type} {B b : Nat} {J : β → World → Prop} (h : HoldsAll B b J) : Holds b J := fun s X Y hs hg => h s X Y _ hs hg (fun r e => .inl (by cases e; rfl))
theorem HoldsAll.put {β : Type} {B b : Nat} {J : β → World → Prop} (h : HoldsAll B b J) {s : β} {W : World} {l : Nat} {o : Obj} (o' : Obj) (hs : J s W) (hB : B ≤ l) (hl : W.heap[l]? = some o) (ho : o.isCells = false) : J s (W.putObj l o') :=
  h s W _ (some l) hs (grownBy_putObj' W l o') (fun r e => by cases e; exact .inr ⟨hB, o, hl, ho⟩)
theorem HoldsAll.lay {β : Type} {B b : Nat} {J : β → World → Prop} (h : HoldsAll B b J) {s : β} {W : World} (o : Obj) (hs : J s W) : J s (W.alloc o) :=
  h s W _ none hs (World.grownBy_alloc W o none) (fun r e => by cases e)

theorem range_box {g : Operand} {ps : Array Tmp} {assign body : Code} {Q : Exit → Act → World → Prop} {a : Act} {w : World}
    (hro : F.round = none) (h1 : 1 ≤ n) {gf : Nat} {lb : Array Value} (hg : a.eval g = .func (.func gf) #[] lb) (hFg : F.fn gf) (eg : ∀ args w, (callFunc gf args).run P w = .ok (.enter gf args) w)
    {encs : α → Array Value} (hps : ∀ x, (encs x).size = ps.size) {b N : Nat} (hb : b < w.heap.size) {Kb : Nat → Prop} (hKb : ∀ i, Kb i → i < w.heap.size) {A0 : World → Prop} {S Sp : List α → Prop} (hseq : SeqBox F (n - 1) P gf lb encs b N Kb A0 S Sp)
    (hA : ∀ W, Below w.heap.size w W → A0 W)
    (I : List α → World → Prop) (Ix : Code → List α → World → Prop) (hI : HoldsAll w.heap.size b I) (hIx : ∀ c, HoldsAll w.heap.size b (Ix c)) (h0 : I [] w) (a₁ : α → Act)
    (hassign : ∀ (l : Nat) (x : α) (W : World) (K : Act → World → Prop), K (a₁ x) W →
      assign.wpIn (F.inRound l) (n - 1 - 1) P (Exit.then K (fun _ _ _ => False)) { tmps := (ps.zip (encs x)).foldl (fun t (p, v) => t.setIfInBounds p v) a.tmps, defers := [] } W)
    (hbody : ∀ (l : Nat) (pre : List α) (x : α) (W : World), I pre W → pre.length < N → body.wpIn (F.inRound l) (n - 1 - 1) P (ownPostK (SameBlk Kb) I Ix (pre ++ [x]) W) (a₁ x) W)
    (hdone : ∀ (D : Nat) (xs : List α) (W : World), w.heap.size ≤ D → S xs → I xs W → W.heap[D]? = some (.deferred (some [])) → Q .normal { a with defers := { target := .collected D, args := #[] } :: a.defers } W)
    (hstop : ∀ (D : Nat) (c : Code) (pre : List α) (W : World), w.heap.size ≤ D → Sp pre → Ix c pre W → W.heap[D]? = some (.deferred (some [])) → c.wpIn F n P Q { a with defers := { target := .collected D, args := #[] } :: a.defers } W) :
    (Code.rangeFunc g ps assign body).wpIn F n P Q a w := by
  refine wpIn_rangeFunc fun fn hfn => ?_
  rw [hro]
  let R0 : Loop := { state := .ready, pending := none, fn := fn, tmps := a.tmps, params := ps, assign := assign, body := body, defers := w.heap.size }
  obtain ⟨R, hR⟩ : ∃ R : Loop, R = R0 := ⟨_, rfl⟩
  obtain ⟨L, hL⟩ : ∃ L, L = w.heap.size + 1 := ⟨_, rfl⟩
  obtain ⟨W1, hW1⟩ : ∃ W1, W1 = (w.alloc (.deferred (some []))).alloc (.loop R) := ⟨_, rfl⟩
  have hbk : Below w.heap.size w W1 := hW1 ▸ ((Below.refl _ w).alloc (Nat.le_refl _) _).alloc (by simp) _
  have hLoop : W1.heap[L]? = some (.loop R) := by
    have := World.alloc_heap_new (w.alloc (.deferred (some []))) (.loop R)
    rw [World.size_alloc] at this
    rw [hW1, hL]
    exact this
  have hDef : W1.heap[w.heap.size]? = some (.deferred (some [])) := by
    rw [hW1]
    exact (Below.heap_alloc _ _ _ (by simp)).trans (World.alloc_heap_new w _)
  have hI1 : I [] W1 := hW1 ▸ hI.lay _ (hI.lay _ h0)
  -- what the loop's book-keeping keeps between two rounds, and behind the last one
  let Between : List α → World → Prop := fun pre X => I pre X ∧ X.heap[L]? = some (.loop R) ∧ X.heap[w.heap.size]? = some (.deferred (some []))
  let Behind : List α → World → Prop := fun pre X => ∃ c, Ix c pre X ∧ X.heap[L]? = some (.loop { R with state := .done, pending := some c }) ∧ X.heap[w.heap.size]? = some (.deferred (some []))
  have far : ∀ {X Y : World} {i : Nat} {o : Obj}, X.grownBy Y (some b) → w.heap.size ≤ i → X.heap[i]? = some o → Y.heap[i]? = some o := fun hg hi ho =>
    (hg.block _ (Array.getElem?_eq_some_iff.1 ho).1 (fun e => by cases e; omega)).trans ho
  have hB1 : Holds b Between := fun s X Y hs hg => ⟨hI.box s X Y hs.1 hg, far hg (by omega) hs.2.1, far hg (Nat.le_refl _) hs.2.2⟩
  have hB2 : Holds b Behind := fun s X Y ⟨c, hc, hl, hd⟩ hg => ⟨c, (hIx c).box s X Y hc hg, far hg (by omega) hl, far hg (Nat.le_refl _) hd⟩
  refine ⟨L, [{ target := .collected w.heap.size, args := #[] }], W1, { target := .fn (.func gf) lb, args := #[.func (.yield L) #[] #[]] }, W1, gf, #[.func (.yield L) #[] #[]] ++ lb, W1, ?_, ?_, ?_, ?_, fun _ => h1, ?_⟩
  · rw [hW1, hL, hR]
    exact run_enterLoop_outer _ _ _ _ _
  · simp only [resolve, hg]
    simp [go_sem]
  · intro f' hf'
    simp [Target.leads] at hf'
    exact hf' ▸ hFg
  · simp [invoke, go_sem, eg]
  refine (hseq L Between Behind W1 (hA W1 hbk) hB1 hB2 ?_ ⟨hI1, hLoop, hDef⟩).mono ?_
  · -- a round
    rintro pre x X ⟨hi, hl, hd⟩ hN
    have hy := run_yield (P := P) (args := encs x) hl (by rw [hR]; exact hps x)
    have hfn' : R.fn = fn := by rw [hR]
    refine ⟨_, _, _, _, hy, roundIn_of_wpIn (by rw [hfn']; exact hfn) ?_⟩
    have e1 : R.assign = assign := by rw [hR]
    have e2 : R.params = ps := by rw [hR]
    have e3 : R.tmps = a.tmps := by rw [hR]
    have e4 : R.body = body := by rw [hR]
    have e5 : R.state = .ready := by rw [hR]
    rw [e1, e2, e3, e4]
    refine hassign L x X _ ⟨_, run_beginRound hl e5, ?_⟩
    have hlt : L < X.heap.size := (Array.getElem?_eq_some_iff.1 hl).1
    obtain ⟨Z, hZ⟩ : ∃ Z, Z = X.putObj L (.loop { R with state := .busy }) := ⟨_, rfl⟩
    have hlZ : Z.heap[L]? = some (.loop { R with state := .busy }) := by rw [hZ]; exact World.putObj_heap_same hlt
    have hdZ : Z.heap[w.heap.size]? = some (.deferred (some [])) := by rw [hZ]; exact (World.putObj_heap_other (by omega)).trans hd
    have hbZ : SameBlk Kb X Z := fun i hi => by have := hKb i hi; rw [hZ]; exact World.putObj_heap_other (by omega)
    have hiZ : I pre Z := by rw [hZ]; exact hI.put _ hi (by omega) hl rfl
    rw [← hZ]
    refine wpIn_mono (hbody L pre x Z hiZ hN) ?_
    have ends : ∀ (j : Option Code) (Y : World), KeepsOthers Z Y → Y.heap[L]? = some (.loop { R with state := .busy }) ∧
        (Instr.endRound L j).run P Y = .ok (.bool j.isNone) (Y.putObj L (.loop { R with state := if j.isNone then .ready else .done, pending := j })) ∧
        (Y.putObj L (.loop { R with state := if j.isNone then .ready else .done, pending := j })).heap[L]? = some (.loop { R with state := if j.isNone then .ready else .done, pending := j }) ∧
        (Y.putObj L (.loop { R with state := if j.isNone then .ready else .done, pending := j })).heap[w.heap.size]? = some (.deferred (some [])) := fun j Y hk => by
      have hlY := hk.same _ _ hlZ rfl
      refine ⟨hlY, ?_, World.putObj_heap_same (Array.getElem?_eq_some_iff.1 hlY).1, (World.putObj_heap_other (by omega)).trans (hk.same _ _ hdZ rfl)⟩
      exact run_endRound (P := P) (r := { R with state := .busy }) j hlY
    have left : ∀ (c : Code) (Y : World), KeepsOthers Z Y → Ix c (pre ++ [x]) Y → ∃ v W', (Instr.endRound L (some c)).run P Y = .ok v W' ∧
        ((Ending.returned v = .returned (.bool true) ∧ Between (pre ++ [x]) W' ∧ SameBlk Kb X W') ∨ (Ending.returned v = .returned (.bool false) ∧ Behind (pre ++ [x]) W')) := fun c Y hk hx => by
      obtain ⟨hlY, hr, hl2, hd2⟩ := ends (some c) Y hk
      exact ⟨_, _, hr, .inr ⟨rfl, c, (hIx c).put _ hx (by omega) hlY rfl, hl2, hd2⟩⟩
    rintro e a3 Y hp
    cases e with
    | normal =>
      obtain ⟨hk, hs, hi3⟩ := hp
      obtain ⟨hlY, hr, hl2, hd2⟩ := ends none Y hk
      have e6 : ({ R with state := .ready, pending := none } : Loop) = R := by rw [hR]
      simp only [Option.isNone_none, if_true, e6] at hr hl2 hd2
      exact ⟨_, _, hr, .inl ⟨rfl, ⟨hI.put _ hi3 (by omega) hlY rfl, hl2, hd2⟩, fun i hi => by have h2 := hKb i hi; exact (World.putObj_heap_other (by omega)).trans ((hs i hi).trans (hbZ i hi))⟩⟩
    | ret => exact left .ret Y hp.1 hp.2
    | exit id => exact left (.exit id) Y hp.1 hp.2
    | goto t => exact left (.goto t) Y hp.1 hp.2
    | panic ch => exact hp.elim
    | outgrown => exact hp.elim
  · rintro e Y ⟨⟨v, rfl⟩, (⟨xs, hS, hi, hl, hd⟩ | ⟨pre, hSp, c, hx, hl, hd⟩)⟩
    · have e5 : R.state ≠ .busy := by rw [hR]; simp [R0]
      have e7 : R.pending = none := by rw [hR]
      have := run_endLoop (P := P) hl e5
      rw [e7] at this
      exact ⟨none, _, this, hdone _ xs _ (Nat.le_refl _) hS (hI.put _ hi (by omega) hl rfl) ((World.putObj_heap_other (by omega)).trans hd)⟩
    · exact ⟨some c, _, run_endLoop (P := P) hl (by simp), hstop _ c pre _ (Nat.le_refl _) hSp ((hIx c).put _ hx (by omega) hl rfl) ((World.putObj_heap_other (by omega)).trans hd)⟩
end Go.Proofs.YtmlbfepibfobaaaDoor.Hand
end

section
namespace Go.Proofs.YtmlbfepibfobaaaDoor.Hand
/-! ### types and their texts -/
section
variable (cls : List UInt8 → Bool)
abbrev Ty := Int × List UInt8
def rightT (t : Ty) : Bool := if t.1 = 3 ∨ t.1 = 5 then cls t.2 else decide (t.2 = [] ∧ 1 ≤ t.1 ∧ t.1 ≤ 5)
def textT (t : Ty) : List UInt8 :=
  if rightT cls t = true then (if t.1 = 1 then [86] else if t.1 = 2 then [73] else if t.1 = 3 then 76 :: (t.2 ++ [59]) else if t.1 = 4 then [91, 73] else 91 :: 76 :: (t.2 ++ [59])) else []
/-- What stands ahead of a byte's first place, and behind it. -/
def untilL (b : UInt8) : List UInt8 → Option (List UInt8 × List UInt8)
  | [] => none
  | x :: r => if x = b then some ([], r) else (untilL b r).map fun p => (x :: p.1, p.2)
def classT (k : Int) (r : List UInt8) : Option (Ty × List UInt8) := match untilL 59 r with
  | some (n, r') => if cls n = true then some ((k, n), r') else none
  | none => none
/-- A type that is no array, at a text's head. -/
def flatT (d : Int) : List UInt8 → Option (Ty × List UInt8)
  | [] => none
  | x :: r => if x = 86 then (if d = 0 then some ((1, []), r) else none) else if x = 73 then some ((2 + d, []), r) else if x = 76 then classT cls (3 + d) r else none
def oneT : List UInt8 → Option (Ty × List UInt8)
  | [] => none
  | x :: r => if x = 91 then flatT cls 2 r else flatT cls 0 (x :: r)
def parseT (l : List UInt8) : Ty × Int := match oneT cls l with
  | some (t, []) => (t, 0)
  | _ => ((0, []), 1)
theorem until_append {b : UInt8} : ∀ (n r : List UInt8), b ∉ n → untilL b (n ++ b :: r) = some (n, r)
  | [], r, _ => by simp [untilL]
  | x :: n, r, h => by
    simp only [List.mem_cons, not_or] at h
    rw [List.cons_append, untilL, if_neg (fun e => h.1 e.symm), until_append n r h.2]
    rfl
theorem until_some {b : UInt8} : ∀ (l n r : List UInt8), untilL b l = some (n, r) → l = n ++ b :: r ∧ b ∉ n
  | [], n, r, h => by simp [untilL] at h
  | x :: l, n, r, h => by
    unfold untilL at h
    split at h
    · rename_i e
      simp at h
      obtain ⟨rfl, rfl⟩ := h
      simp [e]
    · rename_i hx
      obtain ⟨⟨a, b'⟩, h1, h2⟩ := Option.map_eq_some_iff.1 h
      simp at h2
      obtain ⟨rfl, rfl⟩ := h2
      obtain ⟨h3, h4⟩ := until_some l a b' h1
      refine ⟨by rw [h3]; rfl, ?_⟩
      simp only [List.mem_cons, not_or]
      exact ⟨fun e => hx e.symm, h4⟩
theorem until_none {b : UInt8} : ∀ (l : List UInt8), untilL b l = none ↔ b ∉ l
  | [] => by simp [untilL]
  | x :: l => by
    unfold untilL
    by_cases h : x = b
    · simp [h]
    · rw [if_neg h, Option.map_eq_none_iff, until_none l]
      simp only [List.mem_cons, not_or]
      exact ⟨fun h2 => ⟨fun e => h e.symm, h2⟩, fun h2 => h2.2⟩
variable {cls} (hcls : ∀ n, cls n = true → 59 ∉ n)
include hcls
theorem classT_text (k : Int) (c r : List UInt8) (h : cls c = true) : classT cls k (c ++ 59 :: r) = some ((k, c), r) := by
  unfold classT
  rw [until_append c r (hcls c h)]
  simp [h]
omit hcls in
theorem right_cases {t : Ty} (h : rightT cls t = true) : (t.1 = 1 ∧ t.2 = []) ∨ (t.1 = 2 ∧ t.2 = []) ∨ (t.1 = 3 ∧ cls t.2 = true) ∨ (t.1 = 4 ∧ t.2 = []) ∨ (t.1 = 5 ∧ cls t.2 = true) := by
  unfold rightT at h
  split at h
  · rename_i e
    rcases e with e | e
    · exact .inr (.inr (.inl ⟨e, h⟩))
    · exact .inr (.inr (.inr (.inr ⟨e, h⟩)))
  · rename_i e
    have h := of_decide_eq_true h
    have : t.1 = 1 ∨ t.1 = 2 ∨ t.1 = 4 := by omega
    rcases this with e | e | e <;> simp [e, h.1]
theorem one_text {t : Ty} (h : rightT cls t = true) (r : List UInt8) : oneT cls (textT cls t ++ r) = some (t, r) := by
  obtain ⟨k, c⟩ := t
  unfold textT
  rw [if_pos h]
  rcases right_cases h with ⟨e1, e2⟩ | ⟨e1, e2⟩ | ⟨e1, e2⟩ | ⟨e1, e2⟩ | ⟨e1, e2⟩ <;> simp only at e1 e2
  · subst e1 e2; rfl
  · subst e1 e2; rfl
  · subst e1
    have := classT_text hcls 3 c r e2
    simp [oneT, flatT, this]
  · subst e1 e2; rfl
  · subst e1
    have := classT_text hcls 5 c r e2
    simp [oneT, flatT, this]
omit hcls in
theorem classT_back {k : Int} {l : List UInt8} {t : Ty} {r : List UInt8} (h : classT cls k l = some (t, r)) : t.1 = k ∧ cls t.2 = true ∧ l = t.2 ++ 59 :: r := by
  unfold classT at h
  split at h
  · rename_i n r' e
    split at h
    · rename_i hc
      simp at h
      obtain ⟨rfl, rfl⟩ := h
      exact ⟨rfl, hc, (until_some _ _ _ e).1⟩
    · cases h
  · cases h
omit hcls in
theorem flat_back0 {l : List UInt8} {t : Ty} {r : List UInt8} (h : flatT cls 0 l = some (t, r)) : rightT cls t = true ∧ l = textT cls t ++ r := by
  cases l with
  | nil => cases h
  | cons x l =>
    rw [flatT] at h
    by_cases e : x = 86
    · rw [if_pos e, if_pos rfl] at h
      simp at h
      obtain ⟨rfl, rfl⟩ := h
      subst e
      exact ⟨rfl, rfl⟩
    · rw [if_neg e] at h
      by_cases e : x = 73
      · rw [if_pos e] at h
        simp at h
        obtain ⟨rfl, rfl⟩ := h
        subst e
        exact ⟨rfl, rfl⟩
      · rw [if_neg e] at h
        by_cases e : x = 76
        · rw [if_pos e] at h
          subst e
          obtain ⟨h1, h2, h3⟩ := classT_back h
          obtain ⟨k, c⟩ := t
          simp only at h1 h2 h3
          subst h1
          have hr : rightT cls (3 + 0, c) = true := by unfold rightT; simp [h2]
          refine ⟨hr, ?_⟩
          unfold textT
          rw [if_pos hr, h3]
          simp
        · rw [if_neg e] at h
          cases h
omit hcls in
theorem flat_back2 {l : List UInt8} {t : Ty} {r : List UInt8} (h : flatT cls 2 l = some (t, r)) : rightT cls t = true ∧ 91 :: l = textT cls t ++ r := by
  cases l with
  | nil => cases h
  | cons x l =>
    rw [flatT] at h
    by_cases e : x = 86
    · rw [if_pos e, if_neg (by decide)] at h
      cases h
    · rw [if_neg e] at h
      by_cases e : x = 73
      · rw [if_pos e] at h
        simp at h
        obtain ⟨rfl, rfl⟩ := h
        subst e
        exact ⟨rfl, rfl⟩
      · rw [if_neg e] at h
        by_cases e : x = 76
        · rw [if_pos e] at h
          subst e
          obtain ⟨h1, h2, h3⟩ := classT_back h
          obtain ⟨k, c⟩ := t
          simp only at h1 h2 h3
          subst h1
          have hr : rightT cls (3 + 2, c) = true := by unfold rightT; simp [h2]
          refine ⟨hr, ?_⟩
          unfold textT
          rw [if_pos hr, h3]
          simp
        · rw [if_neg e] at h
          cases h
omit hcls in
theorem one_back {l : List UInt8} {t : Ty} {r : List UInt8} (h : oneT cls l = some (t, r)) : rightT cls t = true ∧ l = textT cls t ++ r := by
  cases l with
  | nil => cases h
  | cons x l =>
    rw [oneT] at h
    by_cases e : x = 91
    · rw [if_pos e] at h
      subst e
      exact flat_back2 h
    · rw [if_neg e] at h
      exact flat_back0 h
theorem parse_text {t : Ty} (h : rightT cls t = true) : parseT cls (textT cls t) = (t, 0) := by
  have := one_text hcls h []
  rw [List.append_nil] at this
  unfold parseT
  rw [this]
omit hcls in
theorem text_parse {s : List UInt8} {t : Ty} (h : parseT cls s = (t, 0)) : rightT cls t = true ∧ textT cls t = s := by
  unfold parseT at h
  split at h
  · rename_i t' e
    simp at h
    subst h
    obtain ⟨h1, h2⟩ := one_back e
    rw [List.append_nil] at h2
    exact ⟨h1, h2.symm⟩
  · simp at h

/-! ### descriptors -/
variable (cls)
def paramT (t : Ty) : Bool := rightT cls t && decide (t.1 ≠ 1)
def descText (ret : Ty) (ps : List Ty) : List UInt8 := 40 :: (ps.flatMap (textT cls) ++ 41 :: textT cls ret)
def descD (ret : Ty) (ps : List Ty) : List UInt8 × Int :=
  if rightT cls ret = true ∧ ps.all (paramT cls) = true then (if ps.length > 8 then ([], 3) else if (descText cls ret ps).length > 64 then ([], 3) else (descText cls ret ps, 0)) else ([], 1)
def typesF : Nat → List UInt8 → Option (List Ty × List UInt8)
  | 0, _ => none
  | f + 1, l => if l.head? = some 41 then some ([], l.tail) else match oneT cls l with
    | some (t, r) => if t.1 = 1 then none else (typesF f r).map fun p => (t :: p.1, p.2)
    | none => none
def splitD (l : List UInt8) : List Ty × Ty × Int :=
  if l.length > 64 then ([], (0, []), 3) else if l.head? = some 40 then (match typesF cls 65 l.tail with
    | some (ps, r) => (match oneT cls r with
      | some (t, []) => if ps.length ≤ 8 then (ps, t, 0) else ([], (0, []), 3)
      | _ => ([], (0, []), 1))
    | none => ([], (0, []), 1)) else ([], (0, []), 1)
variable {cls}
omit hcls in
theorem text_ne {t : Ty} (h : rightT cls t = true) : ∃ x r, textT cls t = x :: r ∧ x ≠ 41 := by
  unfold textT
  rw [if_pos h]
  split
  · exact ⟨_, _, rfl, by decide⟩
  · split
    · exact ⟨_, _, rfl, by decide⟩
    · split
      · exact ⟨_, _, rfl, by decide⟩
      · split
        · exact ⟨_, _, rfl, by decide⟩
        · exact ⟨_, _, rfl, by decide⟩
theorem types_text : ∀ (ps : List Ty) (f : Nat) (r : List UInt8), ps.all (paramT cls) = true → ps.length < f → typesF cls f (ps.flatMap (textT cls) ++ 41 :: r) = some (ps, r)
  | [], f, r, _, hf => by
    obtain ⟨f, rfl⟩ : ∃ g, f = g + 1 := ⟨f - 1, by simp at hf; omega⟩
    simp [typesF]
  | t :: ps, f, r, h, hf => by
    obtain ⟨f, rfl⟩ : ∃ g, f = g + 1 := ⟨f - 1, by simp at hf; omega⟩
    simp only [List.all_cons, Bool.and_eq_true] at h
    have h1 := h.1
    unfold paramT at h1
    simp only [Bool.and_eq_true, decide_eq_true_iff] at h1
    have ih := types_text ps f r h.2 (by simp at hf; omega)
    obtain ⟨x, q, hx, hx2⟩ := text_ne h1.1
    have ho := one_text hcls h1.1 (ps.flatMap (textT cls) ++ 41 :: r)
    rw [List.flatMap_cons, List.append_assoc, typesF, if_neg (by rw [hx]; simpa using hx2), ho]
    simp only
    rw [if_neg h1.2, ih]
    rfl
omit hcls in
theorem types_back : ∀ (f : Nat) (l : List UInt8) (ps : List Ty) (r : List UInt8), typesF cls f l = some (ps, r) → l = ps.flatMap (textT cls) ++ 41 :: r ∧ ps.all (paramT cls) = true
  | 0, _, _, _, h => by cases h
  | f + 1, l, ps, r, h => by
    unfold typesF at h
    split at h
    · rename_i hl
      simp at h
      obtain ⟨rfl, rfl⟩ := h
      cases l with
      | nil => cases hl
      | cons x l => simp at hl; simp [hl]
    · split at h
      · rename_i t r' e
        split at h
        · cases h
        · rename_i ht
          obtain ⟨⟨ps', r2⟩, h1, h2⟩ := Option.map_eq_some_iff.1 h
          simp at h2
          obtain ⟨rfl, rfl⟩ := h2
          obtain ⟨h3, h4⟩ := types_back f r' ps' r2 h1
          obtain ⟨h5, h6⟩ := one_back e
          refine ⟨by rw [h6, h3]; simp, ?_⟩
          rw [List.all_cons, h4]
          unfold paramT
          simp [h5, ht]
      · cases h
theorem split_desc {ret : Ty} {ps : List Ty} {d : List UInt8} (h : descD cls ret ps = (d, 0)) : splitD cls d = (ps, ret, 0) := by
  unfold descD at h
  split at h
  · rename_i hr
    split at h
    · simp at h
    · split at h
      · simp at h
      · rename_i h1 h2
        simp at h
        subst h
        unfold splitD
        rw [if_neg h2, if_pos (by rfl)]
        have ht := types_text hcls ps 65 (textT cls ret) hr.2 (by omega)
        have ho := one_text hcls hr.1 []
        rw [List.append_nil] at ho
        unfold descText
        rw [List.tail_cons, ht]
        simp only
        rw [ho]
        simp only
        rw [if_pos (by omega)]
  · simp at h
omit hcls in
theorem desc_split {d : List UInt8} {ret : Ty} {ps : List Ty} (h : splitD cls d = (ps, ret, 0)) : descD cls ret ps = (d, 0) := by
  unfold splitD at h
  split at h
  · simp at h
  · rename_i hl
    split at h
    · rename_i hh
      split at h
      · rename_i ps' r e
        split at h
        · rename_i t e2
          split at h
          · rename_i h8
            simp at h
            obtain ⟨rfl, rfl⟩ := h
            obtain ⟨h1, h2⟩ := types_back _ _ _ _ e
            obtain ⟨h3, h4⟩ := one_back e2
            rw [List.append_nil] at h4
            have hd : d = descText cls t ps' := by
              cases d with
              | nil => cases hh
              | cons x d =>
                simp at hh h1
                unfold descText
                rw [hh, h1, h4]
            unfold descD
            rw [if_pos ⟨h3, h2⟩, if_neg (by omega), ← hd, if_neg hl]
          · simp at h
        · simp at h
      · simp at h
    · simp at h

/-! ### other names -/
def newOf (l : List (List UInt8 × List UInt8)) (c : List UInt8) : List UInt8 := match l.find? (fun p => p.1 = c) with
  | some p => p.2
  | none => c
def renT (l : List (List UInt8 × List UInt8)) (t : Ty) : Ty := if t.1 = 3 ∨ t.1 = 5 then (t.1, newOf l t.2) else t
variable (cls)
def renD (d : List UInt8) (l : List (List UInt8 × List UInt8)) : List UInt8 := match splitD cls d with
  | (ps, r, e) => if e = 0 then (descD cls (renT l r) (ps.map (renT l))).1 else []
def classesD (d : List UInt8) : List (List UInt8) := match splitD cls d with
  | (ps, r, e) => if e = 0 then ((ps ++ [r]).map (·.2)).filter (fun c => !c.isEmpty) else []
variable {cls}
omit hcls in
/-- Renamed, and renamed back. -/
theorem ren_back {l b : List (List UInt8 × List UInt8)} {t : Ty} (hb : ∀ p ∈ l, newOf b p.2 = p.1) (ht : t.2 ≠ [] → ∃ p ∈ l, p.1 = t.2) (hr : rightT cls t = true) (he : cls [] = false) : renT b (renT l t) = t := by
  unfold renT
  by_cases h : t.1 = 3 ∨ t.1 = 5
  · rw [if_pos h]
    simp only
    rw [if_pos h]
    have hn : t.2 ≠ [] := by
      intro e
      unfold rightT at hr
      rw [if_pos h, e, he] at hr
      cases hr
    obtain ⟨p, hp, hp2⟩ := ht hn
    obtain ⟨q, hq⟩ : ∃ q, l.find? (fun p => p.1 = t.2) = some q := by
      cases h2 : l.find? (fun p => p.1 = t.2) with
      | some q => exact ⟨q, rfl⟩
      | none => have := List.find?_eq_none.1 h2 p hp; simp [hp2] at this
    have hq1 := List.find?_some hq
    have hq2 := List.mem_of_find?_eq_some hq
    unfold newOf at hb ⊢
    rw [hq]
    simp only
    have := hb q hq2
    have e3 : q.1 = t.2 := by simpa using hq1
    cases h4 : b.find? (fun p => p.1 = q.2) with
    | some z => rw [h4] at this; simp only at this ⊢; rw [this, e3]
    | none => rw [h4] at this; simp only at this ⊢; rw [this, e3]
  · rw [if_neg h, if_neg h]
omit hcls in
theorem renD_ne {d : List UInt8} {l : List (List UInt8 × List UInt8)} {ps : List Ty} {r : Ty} (hs : splitD cls d = (ps, r, 0)) (hne : renD cls d l ≠ []) : descD cls (renT l r) (ps.map (renT l)) = (renD cls d l, 0) := by
  unfold renD at hne ⊢
  rw [hs] at hne ⊢
  simp only [if_true] at hne ⊢
  unfold descD at hne ⊢
  split at hne
  · rename_i h1
    split at hne
    · simp at hne
    · rename_i h2
      split at hne
      · simp at hne
      · rename_i h3
        rw [if_pos h1, if_neg h2, if_neg h3]
  · simp at hne
omit hcls in
theorem types_right {d : List UInt8} {ps : List Ty} {r : Ty} (hs : splitD cls d = (ps, r, 0)) : ∀ t ∈ ps ++ [r], rightT cls t = true := by
  have h := desc_split hs
  unfold descD at h
  split at h
  · rename_i h1
    intro t ht
    simp only [List.mem_append, List.mem_singleton] at ht
    rcases ht with ht | ht
    · have := List.all_eq_true.1 h1.2 t ht
      unfold paramT at this
      simp only [Bool.and_eq_true] at this
      exact this.1
    · rw [ht]; exact h1.1
  · simp at h
omit hcls in
theorem ways_back (hcls : ∀ n, cls n = true → 59 ∉ n) (he : cls [] = false) {d : List UInt8} {l b : List (List UInt8 × List UInt8)} {ps : List Ty} {r : Ty} (hs : splitD cls d = (ps, r, 0)) (hne : renD cls d l ≠ [])
    (hb : ∀ p ∈ l, newOf b p.2 = p.1) (hc : ∀ c ∈ classesD cls d, ∃ p ∈ l, p.1 = c) : renD cls (renD cls d l) b = d := by
  have h1 := split_desc hcls (renD_ne hs hne)
  have hr := types_right hs
  have hall : ∀ t ∈ ps ++ [r], renT b (renT l t) = t := by
    intro t ht
    refine ren_back hb (fun hn => hc t.2 ?_) (hr t ht) he
    unfold classesD
    rw [hs]
    simp only [if_true, List.mem_filter, List.mem_map]
    exact ⟨⟨t, ht, rfl⟩, by simp [hn]⟩
  unfold renD
  unfold renD at h1
  rw [h1]
  simp only [if_true, List.map_map]
  rw [hall r (by simp), show ps.map (renT b ∘ renT l) = ps from by
    have : ps.map (renT b ∘ renT l) = ps.map id := List.map_congr_left fun t ht => by simpa using hall t (by simp [ht])
    rw [this, List.map_id], desc_split hs]
end
end Go.Proofs.YtmlbfepibfobaaaDoor.Hand
end

section
namespace Go.Proofs.YtmlbfepibfobaaaDoor.Hand
open Go.RowKit Go.Shelf Go.Proofs.YtmlbfepibfobaaaDoorW.PrintWords Go.Proofs.YtmlbfepibfobaaaDoorW.PrintLast Go.Proofs.YtmlbfepibfobaaaDoorW.PrintMore
set_option linter.unusedVariables false
set_option linter.unusedSimpArgs false

/-! ### strings.Cut at one byte -/
theorem cut_until (c : UInt8) : ∀ l : List UInt8, Lib.cut l [c] = match untilL c l with | some (n, r) => (n, r, true) | none => (l, [], false)
  | [] => by simp [Lib.cut, Lib.index, untilL]
  | b :: l => by
    have ih := cut_until c l
    have hge := Lib.index_ge l [c]
    unfold Lib.cut at ih ⊢
    rw [Lib.index]
    by_cases h : b = c
    · subst h
      have : List.isPrefixOf [b] (b :: l) = true := by simp [List.isPrefixOf]
      rw [if_pos this]
      simp [untilL]
    · have hp : List.isPrefixOf [c] (b :: l) = false := by simp [List.isPrefixOf]; exact fun e => h e.symm
      rw [hp]
      simp only [Bool.false_eq_true, if_false]
      by_cases hi : Lib.index l [c] = -1
      · rw [hi] at ih ⊢
        simp only [beq_self_eq_true, if_true] at ih ⊢
        rw [if_neg (by decide)] at ih
        rw [if_neg (by decide)]
        cases hu : untilL c l with
        | none => rw [untilL, if_neg h, hu]; rfl
        | some p => rw [hu] at ih; simp at ih
      · have hb : (Lib.index l [c] == -1) = false := beq_eq_false_iff_ne.2 hi
        rw [hb]
        simp only [Bool.false_eq_true, if_false]
        rw [if_pos (by omega)] at ih
        rw [if_pos (by omega)]
        cases hu : untilL c l with
        | none => rw [hu] at ih; simp at ih
        | some p =>
          rw [hu] at ih
          simp only [Prod.mk.injEq, and_true] at ih
          rw [untilL, if_neg h, hu]
          have e : (Lib.index l [c] + 1).toNat = (Lib.index l [c]).toNat + 1 := by omega
          simp only [Option.map_some, Prod.mk.injEq, and_true]
          rw [e, List.take_succ_cons, ih.1]
          refine ⟨rfl, ?_⟩
          rw [show (Lib.index l [c]).toNat + 1 + [c].length = ((Lib.index l [c]).toNat + [c].length) + 1 from by omega, List.drop_succ_cons]
          exact ih.2

/-! ### a text's lines, one behind the other -/
def segsF : Nat → List UInt8 → List (ByteArray × Bool)
  | 0, _ => []
  | f + 1, l => if l = [] then [] else match untilL 10 l with
    | some (x, r) => (lb x, true) :: segsF f r
    | none => [(lb l, false)]
def goodS (x : ByteArray × Bool) : Bool := x.2 && (bl x.1).all seen
def runS : List ByteArray → List (ByteArray × Bool) → List ByteArray × Int × Int
  | out, [] => (out, 0, 0)
  | out, x :: r => if goodS x = true then runS (out ++ [x.1]) r else ([], 1, (out.length : Int) + 1)
theorem lin_seg (x : List UInt8) : ∀ (cur : List UInt8) (out : List (List UInt8)) (r : List UInt8), 10 ∉ x → lin cur out (x ++ 10 :: r) = if x.all seen = true then lin [] (out ++ [cur ++ x]) r else ([], 1, (out.length : Int) + 1) := by
  induction x with
  | nil => intro cur out r _; simp [lin]
  | cons b x ih =>
    intro cur out r h
    simp only [List.mem_cons, not_or] at h
    rw [List.cons_append, lin, if_neg (fun e => h.1 e.symm), List.all_cons]
    by_cases hb : seen b = true
    · rw [if_pos hb, ih _ _ _ h.2, hb, Bool.true_and]
      simp
    · rw [if_neg hb, if_neg]
      simp [hb]
theorem lin_last (x : List UInt8) : ∀ (cur : List UInt8) (out : List (List UInt8)), 10 ∉ x → (cur ≠ [] ∨ x ≠ []) → lin cur out x = ([], 1, (out.length : Int) + 1) := by
  induction x with
  | nil => intro cur out _ h; rw [lin, if_neg (by rcases h with h | h; exact h; exact absurd rfl h)]
  | cons b x ih =>
    intro cur out h _
    simp only [List.mem_cons, not_or] at h
    rw [lin, if_neg (fun e => h.1 e.symm)]
    by_cases hb : seen b = true
    · rw [if_pos hb, ih _ _ h.2 (.inl (by simp))]
    · rw [if_neg hb]
theorem run_segs : ∀ (f : Nat) (l : List UInt8) (out : List (List UInt8)), l.length ≤ f → runS (out.map lb) (segsF f l) = (((lin [] out l).1).map lb, (lin [] out l).2)
  | 0, l, out, h => by
    have : l = [] := List.length_eq_zero_iff.1 (by omega)
    subst this
    simp [segsF, runS, lin]
  | f + 1, l, out, h => by
    unfold segsF
    by_cases hl : l = []
    · subst hl; simp [runS, lin]
    · rw [if_neg hl]
      cases hu : untilL 10 l with
      | none =>
        have hn := (until_none l).1 hu
        rw [lin_last l [] out hn (.inr hl)]
        simp [runS, goodS]
      | some p =>
        obtain ⟨x, r⟩ := p
        obtain ⟨e, hx⟩ := until_some l x r hu
        have hr : r.length ≤ f := by rw [e] at h; simp at h; omega
        rw [e, lin_seg x [] out r hx]
        simp only [runS, goodS, bl_lb, Bool.true_and]
        by_cases ha : x.all seen = true
        · rw [if_pos ha, if_pos ha]
          have := run_segs f r (out ++ [x]) hr
          rw [List.map_append] at this
          exact this
        · rw [if_neg ha, if_neg ha]
          simp
/-- What package-level variable internal/bytealg.MaxLen holds. -/
def MaxL (w : World) : Prop := ∃ m, w.cell? ⟨0, 0, none⟩ = some (.int .i64 m)
end Go.Proofs.YtmlbfepibfobaaaDoor.Hand
end

section
namespace Go.Proofs.YtmlbfepibfobaaaDoor.Hand
open Go.RowKit Go.Shelf Go.Proofs.YtmlbfepibfobaaaDoorW.PrintWords Go.Proofs.YtmlbfepibfobaaaDoorW.PrintLast Go.Proofs.YtmlbfepibfobaaaDoorW.PrintMore
set_option linter.unusedVariables false
set_option linter.unusedSimpArgs false
attribute [local go_sem] Oper.semAt_some

abbrev encS (x : ByteArray × Bool) : Array Value := #[.string x.1, .bool x.2]
def leftB (b : Nat) (w : World) : Nat := match w.cell? ⟨b, 0, none⟩ with | some (.string r) => r.size | _ => 0
theorem leftB_eq {b : Nat} {w : World} {r : ByteArray} {t : TypeId} (h : Boxed w b t (.string r)) : leftB b w = r.size := by
  unfold leftB
  rw [h.cell]
def segOf (r : ByteArray) : ByteArray × Bool := (⟨(Lib.cut r.data.toList [10]).1.toArray⟩, (Lib.cut r.data.toList [10]).2.2)
def restOf (r : ByteArray) : ByteArray := ⟨(Lib.cut r.data.toList [10]).2.1.toArray⟩
theorem segs_step (r : ByteArray) (hr : r.size ≠ 0) (f : Nat) (hf : r.size ≤ f + 1) : segsF (f + 1) (bl r) = segOf r :: segsF f (bl (restOf r)) ∧ (restOf r).size ≤ f := by
  have hne : bl r ≠ [] := by intro e; apply hr; rw [← bl_len, e]; rfl
  unfold segOf restOf
  rw [segsF, if_neg hne, show r.data.toList = bl r from rfl, cut_until]
  cases hu : untilL 10 (bl r) with
  | none =>
    refine ⟨?_, Nat.zero_le _⟩
    cases f with
    | zero => rfl
    | succ f => simp only [segsF]; rfl
  | some p =>
    obtain ⟨x, q⟩ := p
    obtain ⟨e, _⟩ := until_some _ x q hu
    refine ⟨rfl, ?_⟩
    have := bl_len r
    rw [e] at this
    simp at this
    show q.length ≤ f
    omega
theorem max_same {K : Nat → Prop} {X Y : World} (h : MaxL X) (hs : SameBlk K X Y) (hk : K 0) : MaxL Y := by
  obtain ⟨m, hm⟩ := h
  refine ⟨m, ?_⟩
  have := hs _ hk
  unfold World.cell? at hm ⊢
  rw [this]
  exact hm
theorem max_below {w w' : World} (h : MaxL w) (hb : Below w.heap.size w w') : MaxL w' := by
  obtain ⟨m, hm⟩ := h
  exact ⟨m, pw_cell_below hb hm⟩
theorem MaxL.below {w w' : World} (h : MaxL w) (hb : Below w.heap.size w w') : MaxL w' := max_below h hb
theorem MaxL.drawn {w w' : World} (h : MaxL w) (hd : Drawn0 w w') : MaxL w' := max_below h hd.below
theorem max_set {w : World} {b : Nat} (h : MaxL w) (hb : b ≠ 0) (v : Value) : MaxL (w.setCell ⟨b, 0, none⟩ v) := by
  obtain ⟨m, hm⟩ := h
  refine ⟨m, ?_⟩
  rw [World.cell?_setCell_other]
  · exact hm
  · intro e; cases e; exact hb rfl
theorem grown_drewN (w : World) (n b : Nat) : w.grownBy (w.drewN n) (some b) := grown_of_below (pw_below_drewN (Below.refl _ w) n) _
set_option maxHeartbeats 8000000 in
set_option maxRecDepth 100000 in
theorem each_seq (n : Nat) (s : ByteArray) (b : Nat) (hs : s.size < 4294967281) :
    SeqBox Fence.wide n Tryd.prog 128 #[.pointer (some ⟨b, 0, none⟩)] encS b (s.size + 1) (fun i => i = b ∨ i = 0) (fun W => Boxed W b 9 (.string s) ∧ MaxL W)
      (fun xs => xs = segsF s.size (bl s)) (fun pre => pre <+: segsF s.size (bl s)) := fun l J Jx W hA hJ hJx hY h0 => by
  obtain ⟨hbox, hmax⟩ := hA
  have hb0 : b ≠ 0 := by
    rintro rfl
    obtain ⟨m, hm⟩ := hmax
    rw [hbox.cell] at hm
    cases hm
  have HB0 := Aside0.mk hb0
  have HM0 := Aside0.mk hmax
  have HS := Aside0.mk hs
  clear hs hb0 hmax
  refine callsIn_of_wp Tryd.func128 rfl trivial ?_ rfl
  simp only [Tryd.ntmps128, List.size_toArray, List.length_cons, List.length_nil, Nat.reduceAdd, Nat.reduceSub, Array.replicate_succ, Array.replicate_zero, List.push_toArray, List.append_toArray, List.nil_append, List.cons_append]
  gi_wp2
  gi_loopw [3] (fun _ wr => ∃ (pre : List (ByteArray × Bool)) (r : ByteArray) (f : Nat), J pre wr ∧ Aside0 (Boxed wr b 9 (.string r)) ∧ Aside0 (MaxL wr) ∧ Aside0 (segsF s.size (bl s) = pre ++ segsF f (bl r)) ∧ Aside0 (r.size ≤ f ∧ pre.length + f = s.size)) (fun _ wr => leftB b wr)
  case atStart => exact ⟨[], s, s.size, h0, ⟨hbox⟩, HM0, ⟨rfl⟩, ⟨Nat.le_refl _, by simp⟩⟩
  case round =>
    obtain ⟨pre, r, f, hJ0, HBx, HM, HSg, HF⟩ := hrel
    have hc := HBx.out.cell
    have hfr := HBx.out.frozen
    by_cases hr : r.size = 0
    · have hr1 : r.toList = [] := by rw [ByteArray.toList_eq]; exact List.length_eq_zero_iff.1 ((bl_len r).trans hr)
      have hr2 : r.toList.isEmpty = true := by rw [hr1]; rfl
      have HZ : Aside0 (segsF s.size (bl s) = pre) := ⟨by
        have e : bl r = [] := List.length_eq_zero_iff.1 ((bl_len r).trans hr)
        rw [HSg.out, e]
        cases f <;> simp [segsF]⟩
      clear hr
      gi_wp2
      go_end0
      exact ⟨⟨_, rfl⟩, .inl ⟨pre, HZ.out.symm, hJ0⟩⟩
    · have hr2 : r.toList.isEmpty = false := by
        rw [ByteArray.toList_eq]
        have := isEmpty_bl r
        rw [decide_eq_false hr] at this
        exact this
      have hr1 : ¬ r.toList = [] := fun e => by rw [e] at hr2; cases hr2
      have HR := Aside0.mk hr
      clear hr
      obtain ⟨m, hm⟩ := HM.out
      have HC := Aside0.mk (Tryd.strings_Cut r ⟨#[10]⟩ m wr (by have := HF.out; have := HS.out; omega) hm)
      clear hm
      obtain ⟨f, rfl⟩ : ∃ g, f = g + 1 := ⟨f - 1, by have := HF.out; have := HR.out; omega⟩
      have HT := Aside0.mk (segs_step r HR.out f (by have := HF.out; omega))
      gi_wp2_with fail
      refine ⟨trivial, (fun h => by cases h), ?_⟩
      refine (callsIn_wide.2 HC.out).mono ?_
      rintro e w1 ⟨rfl, n1, rfl⟩
      clear HC
      have hJ1 := hJ _ _ _ hJ0 (grown_drewN wr n1 b)
      have HM1 := Aside0.mk (max_below HM.out (pw_below_drewN (Below.refl _ wr) n1))
      have HB1 := Aside0.mk (show Boxed (wr.drewN n1) b 9 (.string r) from HBx.out)
      obtain ⟨fn, tmps, assign, body, hy, hR⟩ := hY pre (segOf r) _ hJ1 (by have := HF.out; omega)
      dsimp only [encS, segOf] at hy
      clear hc hfr
      gi_wp2
      refine ⟨(fun h => by cases h), ?_⟩
      refine hR.mono ?_
      rintro e W3 (⟨rfl, hJ3, hk3⟩ | ⟨rfl, hJx3⟩)
      · have hB3 : Boxed W3 b 9 (.string r) := (hk3 b (.inl rfl)).trans HB1.out
        have HM3 := Aside0.mk (max_same HM1.out hk3 (.inr rfl))
        have HB3 := Aside0.mk hB3
        have hc3 := hB3.cell
        have hf3 := hB3.frozen
        have hJ4 := hJ _ _ _ hJ3 (grownBy_setCell' W3 b (.string (restOf r)))
        have HB4 := Aside0.mk (hB3.set (.string (restOf r)))
        have HM4 := Aside0.mk (max_set HM3.out HB0.out (.string (restOf r)))
        clear hk3 hB3
        gi_wp2
        go_roundw
        case rel => exact ⟨pre ++ [segOf r], restOf r, f, hJ4, HB4, HM4, ⟨by rw [HSg.out, HT.out.1]; simp⟩, ⟨HT.out.2, by have := HF.out; simp; omega⟩⟩
        case measure =>
          have e1 := leftB_eq HB4.out
          have e2 := leftB_eq HBx.out
          have e3 : (restOf r).size < r.size := by
            have h1 := HR.out
            have := (segs_step r h1 (r.size - 1) (by omega)).2
            omega
          show leftB b _ < leftB b wr
          rw [e2]
          exact lt_of_eq_of_lt e1 e3
      · gi_wp2
        refine bodyPost_ret (results_none rfl _ _ _) rfl ?_
        exact ⟨⟨_, rfl⟩, .inr ⟨_, ⟨segsF f (bl (restOf r)), by rw [HSg.out, HT.out.1]; simp⟩, hJx3⟩⟩
end Go.Proofs.YtmlbfepibfobaaaDoor.Hand
end

section
namespace Go.Proofs.YtmlbfepibfobaaaDoor.Hand
open Go.RowKit Go.Shelf Go.Proofs.YtmlbfepibfobaaaDoorW.PrintWords Go.Proofs.YtmlbfepibfobaaaDoorW.PrintLast Go.Proofs.YtmlbfepibfobaaaDoorW.PrintMore
set_option linter.unusedVariables false
set_option linter.unusedSimpArgs false
attribute [local go_sem] Oper.semAt_some

set_option maxHeartbeats 2000000 in
theorem word_each (s : ByteArray) (w : World) :
    Calls Tryd.prog 101 #[.string s] w fun e w' => e = .returned (.func (.func 128) #[] #[.pointer (some ⟨w.heap.size, 0, none⟩)]) ∧ w' = w.alloc (.cells #[.string s] 9) := by
  have hmf : ∀ (fn : Fn) (first cap : Array Value) (w : World), (Instr.makeFunc fn first cap).run Tryd.prog w = .ok (.func fn first cap) w := fun _ _ _ _ => rfl
  go_enter Tryd.func101, Tryd.ntmps101
  go_wp2
  go_ret
  exact ⟨rfl, rfl⟩
theorem lines_info : (Tryd.prog.info? 9).map (fun i => (i.zero, i.size, i.bytes)) = some (some (.string ⟨#[]⟩), 1, 16) := by kernel_rfl

abbrev FltT : TypeId := 31
abbrev StrsT : TypeId := 57
/-- Between two lines. -/
def LinesI (w : World) (pre : List (ByteArray × Bool)) (W : World) : Prop :=
  (∀ x ∈ pre, goodS x = true) ∧ (∃ v, Boxed W (w.heap.size + 1 + 1) StrsT v ∧ W.ownsRow (w.heap.size + 4) 9 1 v pre.length (pre.map fun x => Value.string x.1)) ∧
  Boxed W w.heap.size StrsT (.slice none 0 0) ∧ W.heap[w.heap.size + 1]? = some (.cells #[.int .i64 0, .int .i64 0] FltT (0, 0)) ∧ Below w.heap.size w W ∧ w.heap.size + 4 ≤ W.heap.size
/-- A line was none. -/
def LinesX (w : World) (c : Code) (pre : List (ByteArray × Bool)) (W : World) : Prop :=
  c = .ret ∧ ∃ q x, pre = q ++ [x] ∧ (∀ y ∈ q, goodS y = true) ∧ goodS x = false ∧ Boxed W w.heap.size StrsT (.slice none 0 0) ∧
    W.heap[w.heap.size + 1]? = some (.cells #[.int .i64 1, .int .i64 ((q.length : Int) + 1)] FltT (0, 0)) ∧ Below w.heap.size w W ∧ w.heap.size + 4 ≤ W.heap.size
theorem Boxed_alloc2 {W : World} {g : Nat} {cs : Array Value} {t : TypeId} {o o1 : Obj} (h : W.heap[g]? = some (.cells cs t (0, 0))) : ((W.alloc o).alloc o1).heap[g]? = some (.cells cs t (0, 0)) :=
  blk_grown (blk_grown h (World.grownBy_alloc W o none) (by simp)) (World.grownBy_alloc _ o1 none) (by simp)
theorem blk_stays {X Y : World} {row : Option Nat} {B b g : Nat} {cs : Array Value} {t : TypeId} (h : X.heap[g]? = some (.cells cs t (0, 0))) (hg : X.grownBy Y row)
    (hr : ∀ r, row = some r → r = b ∨ (B ≤ r ∧ ∃ o : Obj, X.heap[r]? = some o ∧ o.isCells = false)) (hne : g ≠ b) : Y.heap[g]? = some (.cells cs t (0, 0)) := by
  refine (hg.block g (Array.getElem?_eq_some_iff.1 h).1 fun e => ?_).trans h
  rcases hr g e.symm with h1 | ⟨_, o, ho, hc⟩
  · exact hne h1
  · rw [h] at ho; cases ho; cases hc
theorem row_stays {X Y : World} {row : Option Nat} {B b base : Nat} {e : TypeId} {v : Value} {k : Nat} {xs : List Value} (h : X.ownsRow base e 1 v k xs) (hg : X.grownBy Y row)
    (hr : ∀ r, row = some r → r = b ∨ (B ≤ r ∧ ∃ o : Obj, X.heap[r]? = some o ∧ o.isCells = false)) (hb : b < base) : Y.ownsRow base e 1 v k xs := by
  rcases h.2 with ⟨hv, _⟩ | ⟨g, cap, cur, hv, hbg, hh, _⟩
  · exact h.kept hg (.inl (by rw [hv]; rfl))
  · refine h.kept hg (.inr fun ev => ?_)
    have ev' : row = some g := by rw [← ev, hv]; rfl
    rcases hr g ev' with h1 | ⟨_, o, ho, hc⟩
    · omega
    · rw [hh] at ho; cases ho; cases hc
theorem linesI_holds (w : World) : HoldsAll (w.heap.size + 4) (w.heap.size + 3) (LinesI w) := fun pre X Y row ⟨h1, ⟨v, hv, hrow⟩, h2, h3, h4, h5⟩ hg hr =>
  ⟨h1, ⟨v, blk_stays hv hg hr (by omega), row_stays hrow hg hr (by omega)⟩, blk_stays h2 hg hr (by omega), blk_stays h3 hg hr (by omega),
    h4.grown hg h4.size (fun k e => by rcases hr k e with h | ⟨h, _⟩ <;> omega), Nat.le_trans h5 hg.size⟩
theorem linesX_holds (w : World) (c : Code) : HoldsAll (w.heap.size + 4) (w.heap.size + 3) (LinesX w c) := fun pre X Y row ⟨hc, q, x, h0, h1, hx, h2, h3, h4, h5⟩ hg hr =>
  ⟨hc, q, x, h0, h1, hx, blk_stays h2 hg hr (by omega), blk_stays h3 hg hr (by omega), h4.grown hg h4.size (fun k e => by rcases hr k e with h | ⟨h, _⟩ <;> omega), Nat.le_trans h5 hg.size⟩
theorem own_lower {W : World} {base base' : Nat} {e : TypeId} {size : Nat} {v : Value} {k : Nat} {xs : List Value} (h : W.ownsRow base e size v k xs) (hb : base' ≤ base) : W.ownsRow base' e size v k xs := by
  refine ⟨h.1, h.2.imp id ?_⟩
  rintro ⟨g, cap, cur, h1, h2, h3⟩
  exact ⟨g, cap, cur, h1, Nat.le_trans hb h2, h3⟩
theorem run_good : ∀ (l : List (ByteArray × Bool)) (out : List ByteArray), (∀ x ∈ l, goodS x = true) → runS out l = (out ++ l.map (·.1), 0, 0)
  | [], out, _ => by simp [runS]
  | x :: l, out, h => by
    rw [runS, if_pos (h x (by simp)), run_good l _ (fun y hy => h y (by simp [hy]))]
    simp
theorem run_bad : ∀ (q : List (ByteArray × Bool)) (x : ByteArray × Bool) (r : List (ByteArray × Bool)) (out : List ByteArray), (∀ y ∈ q, goodS y = true) → goodS x = false → runS out (q ++ x :: r) = ([], 1, (out.length : Int) + q.length + 1)
  | [], x, r, out, _, hx => by rw [List.nil_append, runS, hx]; simp
  | y :: q, x, r, out, h, hx => by
    rw [List.cons_append, runS, if_pos (h y (by simp)), run_bad q x r _ (fun z hz => h z (by simp [hz])) hx]
    simp
    omega
theorem linesX_both (w W : World) (pre : List (ByteArray × Bool)) (x : ByteArray × Bool) (h1 : ∀ y ∈ pre, goodS y = true) (hx : goodS x = false) (h2 : Boxed W w.heap.size StrsT (.slice none 0 0))
    (h3 : W.heap[w.heap.size + 1]? = some (.cells #[.int .i64 0, .int .i64 0] FltT (0, 0))) (h4 : Below w.heap.size w W) (h5 : w.heap.size + 4 ≤ W.heap.size) :
    (KeepsOthers W (((W.setCell ⟨w.heap.size, 0, none⟩ (.slice none 0 0)).setCell ⟨w.heap.size + 1, 0, none⟩ (.int .i64 1)).setCell ⟨w.heap.size + 1, 1, none⟩ (.int .i64 ((pre.length : Int) + 1))).drew ∧
      LinesX w .ret (pre ++ [x]) (((W.setCell ⟨w.heap.size, 0, none⟩ (.slice none 0 0)).setCell ⟨w.heap.size + 1, 0, none⟩ (.int .i64 1)).setCell ⟨w.heap.size + 1, 1, none⟩ (.int .i64 ((pre.length : Int) + 1))).drew) ∧
    (KeepsOthers W (((W.setCell ⟨w.heap.size + 1, 0, none⟩ (.int .i64 1)).setCell ⟨w.heap.size + 1, 1, none⟩ (.int .i64 ((pre.length : Int) + 1))).setCell ⟨w.heap.size, 0, none⟩ (.slice none 0 0)).drew ∧
      LinesX w .ret (pre ++ [x]) (((W.setCell ⟨w.heap.size + 1, 0, none⟩ (.int .i64 1)).setCell ⟨w.heap.size + 1, 1, none⟩ (.int .i64 ((pre.length : Int) + 1))).setCell ⟨w.heap.size, 0, none⟩ (.slice none 0 0)).drew) := by
  have s1 := fun (X : World) (hX : X.heap[w.heap.size + 1]? = some (.cells #[.int .i64 0, .int .i64 0] FltT (0, 0))) => blk_set (blk_set hX 0 (.int .i64 1)) 1 (.int .i64 ((pre.length : Int) + 1))
  simp only [List.setIfInBounds_toArray, List.set_cons_zero, List.set_cons_succ] at s1
  refine ⟨⟨(((KeepsOthers.setCell _ _ _).trans (KeepsOthers.setCell _ _ _)).trans (KeepsOthers.setCell _ _ _)).trans (KeepsOthers.drew _), rfl, pre, x, rfl, h1, hx, ?_, ?_, ?_, ?_⟩,
    ⟨(((KeepsOthers.setCell _ _ _).trans (KeepsOthers.setCell _ _ _)).trans (KeepsOthers.setCell _ _ _)).trans (KeepsOthers.drew _), rfl, pre, x, rfl, h1, hx, ?_, ?_, ?_, ?_⟩⟩
  · have := blk_far (blk_far (h2.set (.slice none 0 0)) (p := ⟨w.heap.size + 1, 0, none⟩) (by simp) (.int .i64 1)) (p := ⟨w.heap.size + 1, 1, none⟩) (by simp) (.int .i64 ((pre.length : Int) + 1))
    exact this
  · exact s1 _ (blk_far h3 (p := ⟨w.heap.size, 0, none⟩) (by simp) _)
  · exact below_drew (((h4.setCell (p := ⟨w.heap.size, 0, none⟩) (Nat.le_refl _) _).setCell (p := ⟨w.heap.size + 1, 0, none⟩) (by simp) _).setCell (p := ⟨w.heap.size + 1, 1, none⟩) (by simp) _)
  · simpa using h5
  · have h6 := blk_far (blk_far h2 (p := ⟨w.heap.size + 1, 0, none⟩) (by simp) (.int .i64 1)) (p := ⟨w.heap.size + 1, 1, none⟩) (by simp) (.int .i64 ((pre.length : Int) + 1))
    exact Boxed.set (.slice none 0 0) h6
  · exact blk_far (s1 _ h3) (p := ⟨w.heap.size, 0, none⟩) (by simp) _
  · exact below_drew (((h4.setCell (p := ⟨w.heap.size + 1, 0, none⟩) (by simp) _).setCell (p := ⟨w.heap.size + 1, 1, none⟩) (by simp) _).setCell (p := ⟨w.heap.size, 0, none⟩) (Nat.le_refl _) _)
  · simpa using h5
/-- The two results' boxes, read when the loop's block for deferred calls has been shut. -/
theorem lines_end (w W : World) (D : Nat) (e x : Int) (v : Value) (xs : List ByteArray) (hD : w.heap.size + 4 ≤ D) (hK : W.heap[D]? = some (.deferred (some []))) (h2 : Boxed W w.heap.size StrsT v)
    (h3 : W.heap[w.heap.size + 1]? = some (.cells #[.int .i64 e, .int .i64 x] FltT (0, 0))) (h4 : Below w.heap.size w W) (hrow : W.ownsRow (w.heap.size + 4) 9 1 v xs.length (xs.map Value.string)) :
    ((W.putObj D (.deferred none)).cell? ⟨w.heap.size, 0, none⟩ = some v ∧ (W.putObj D (.deferred none)).cell? ⟨w.heap.size + 1, 0, none⟩ = some (.int .i64 e) ∧ (W.putObj D (.deferred none)).cell? ⟨w.heap.size + 1, 1, none⟩ = some (.int .i64 x)) ∧
    Kd.R Kd.string 9 (W.putObj D (.deferred none)) w.heap.size (fun _ => True) v xs ∧ Below w.heap.size w (W.putObj D (.deferred none)) := by
  have hk : ∀ r, some D = some r → ∃ o : Obj, W.heap[r]? = some o ∧ o.isCells = false := fun r e => by cases e; exact ⟨_, hK, rfl⟩
  have hc3 := blk_cell h3 0
  have hc4 := blk_cell h3 1
  simp only [List.getElem?_toArray, List.getElem?_cons_zero, List.getElem?_cons_succ] at hc3 hc4
  refine ⟨⟨cell_kept h2.cell (grownBy_putObj' _ D _) hk, cell_kept hc3 (grownBy_putObj' _ D _) hk, cell_kept hc4 (grownBy_putObj' _ D _) hk⟩, Kd.R_of_own ?_ (fun _ _ => trivial), ?_⟩
  · exact own_lower (ownsRow_putObj hrow _ hK rfl) (by omega)
  · exact h4.trans (belowK_b (w := w) (Nat.le_refl _) W D _ _ (by omega) hK rfl rfl)
theorem linesI_next (w W w1 : World) (pre : List (ByteArray × Bool)) (line : ByteArray) (v v' : Value) (o : Obj) (hlen : (0 : Nat) < w.heap.size) (h1 : ∀ y ∈ pre, goodS y = true) (hx : goodS (line, true) = true)
    (hv : Boxed W (w.heap.size + 1 + 1) StrsT v) (hrow : W.ownsRow (w.heap.size + 4) 9 1 v pre.length (pre.map fun x => Value.string x.1)) (h2 : Boxed W w.heap.size StrsT (.slice none 0 0))
    (h3 : W.heap[w.heap.size + 1]? = some (.cells #[.int .i64 0, .int .i64 0] FltT (0, 0))) (h4 : Below w.heap.size w W) (h5 : w.heap.size + 4 ≤ W.heap.size)
    (hown : w1.ownsRow (w.heap.size + 4) 9 1 v' (pre.length + 1) ((pre.map fun x => Value.string x.1) ++ [.string line])) (hgrow : (W.alloc o).grownBy w1 v.ownBlock) :
    Boxed w1 (w.heap.size + 1 + 1) StrsT v ∧ KeepsOthers W (w1.setCell ⟨w.heap.size + 1 + 1, 0, none⟩ v') ∧ SameBlk (fun i => i = w.heap.size + 1 + 1 + 1 ∨ i = 0) W (w1.setCell ⟨w.heap.size + 1 + 1, 0, none⟩ v') ∧
      LinesI w (pre ++ [(line, true)]) (w1.setCell ⟨w.heap.size + 1 + 1, 0, none⟩ v') := by
  obtain ⟨a1, a2, a3, a4, a5⟩ := hv.appended (n₀ := w.heap.size) (by decide) (own_lower hrow (by omega : w.heap.size ≤ w.heap.size + 4)) (by omega) (by omega) (own_lower hown (by omega : w.heap.size ≤ w.heap.size + 4)) hgrow
  have hr4 := hown.kept (grownBy_setCell' w1 (w.heap.size + 1 + 1) v') (.inr (a1.not_row (by decide) hown).symm)
  have ho := hrow.alloc o
  have hbase : ∀ k, v.ownBlock = some k → w.heap.size + 4 ≤ k := fun k hk => (hrow.lt k hk).1
  refine ⟨a1, a4, ?_, ?_, ⟨v', a2, by simpa using hr4⟩, ?_, ?_, h4.trans a5, ?_⟩
  · have go : ∀ i, i < w.heap.size + 4 → i ≠ w.heap.size + 1 + 1 → (w1.setCell ⟨w.heap.size + 1 + 1, 0, none⟩ v').heap[i]? = W.heap[i]? := fun i hi hne => by
      rw [Below.heap_setCell w1 ⟨w.heap.size + 1 + 1, 0, none⟩ v' i hne]
      exact (hgrow.block i (by simp; omega) (fun e => by have := hbase i e.symm; omega)).trans (Below.heap_alloc W o i (by omega))
    rintro i (rfl | rfl)
    · exact go _ (by omega) (by omega)
    · exact go _ (by omega) (by omega)
  · intro y hy
    simp only [List.mem_append, List.mem_singleton] at hy
    rcases hy with hy | hy
    · exact h1 y hy
    · rw [hy]; exact hx
  · have := (h2.alloc o).kept hgrow ((h2.alloc o).not_row (by decide) ho)
    exact blk_far this (p := ⟨w.heap.size + 1 + 1, 0, none⟩) (by simp; omega) _
  · have h3' := blk_grown h3 (World.grownBy_alloc W o none) (by simp)
    have := blk_grown h3' hgrow (own_ne ho h3' (by decide))
    exact blk_far this (p := ⟨w.heap.size + 1 + 1, 0, none⟩) (by simp) _
  · have := hgrow.size
    simp at this ⊢
    omega
def word_Lines.f (s : ByteArray) : Option (List ByteArray × Int × Int) := if s.size ≤ 9223372036854775807 then some ((linesL (bl s)).1.map lb, (linesL (bl s)).2) else none
set_option maxHeartbeats 8000000 in
set_option maxRecDepth 100000 in
theorem word_Lines.calls (a0 : ByteArray) (r1 : List ByteArray) (r2 r3 : Int) (w : World) (hGMaxL : MaxL w) (h : word_Lines.f a0 = some (r1, r2, r3)) :
    Calls Tryd.prog 40 #[.string a0] w fun e w' => ∃ v0_ : Value, e = .returned (.tuple #[v0_, .agg #[.int .i64 r2, .int .i64 r3]]) ∧ Kd.R Kd.string 9 w' w.heap.size (fun _ => True) v0_ r1 ∧ Below w.heap.size w w' := by
  refine (callsIn_wide (n := 9)).1 ?_
  unfold word_Lines.f at h
  split at h
  · rename_i hs
    have h := Option.some.inj h
    unfold linesL at h
    rw [bl_len] at h
    obtain ⟨i0, hi, hz0, hz1, hz2⟩ := info_parts lines_info
    by_cases hbig : a0.size > 65536
    · rw [if_pos hbig] at h
      simp only [List.map_nil, Prod.mk.injEq] at h
      obtain ⟨rfl, rfl, rfl⟩ := h
      have hd : decide (65536 < a0.size) = true := decide_eq_true hbig
      have hd2 : decide ((65536 : Int) < (a0.size : Int)) = true := decide_eq_true (by omega)
      clear hbig
      refine callsIn_of_wp_marks Tryd.func40 rfl trivial ?_ rfl
      simp only [Tryd.ntmps40, List.size_toArray, List.length_cons, List.length_nil, Nat.reduceAdd, Nat.reduceSub, Array.replicate_succ, Array.replicate_zero, List.push_toArray, List.append_toArray, List.nil_append, List.cons_append]
      gi_wp2
      refine ⟨.tuple #[.slice none 0 0, .agg #[.int .i64 3, .int .i64 0]], by simp [results, Tryd.results40, go_sem], .slice none 0 0, rfl, Kd.R_nil _ _ _ _ _, below_alloc (below_alloc (Below.refl _ _) _) _⟩
    · rw [if_neg hbig] at h
      have hd : decide (65536 < a0.size) = false := decide_eq_false hbig
      have hd2 : decide ((65536 : Int) < (a0.size : Int)) = false := decide_eq_false (by omega)
      have HRun : Aside0 (runS [] (segsF a0.size (bl a0)) = (r1, r2, r3)) := ⟨by
        have e1 := congrArg Prod.fst h
        have e2 := congrArg Prod.snd h
        simp only at e1 e2
        rw [← e1, ← e2]
        exact run_segs a0.size (bl a0) [] (by rw [bl_len]; omega)⟩
      have hsz : a0.size ≤ 65536 := by omega
      clear h hbig hs
      refine callsIn_of_wp_marks Tryd.func40 rfl trivial ?_ rfl
      simp only [Tryd.ntmps40, List.size_toArray, List.length_cons, List.length_nil, Nat.reduceAdd, Nat.reduceSub, Array.replicate_succ, Array.replicate_zero, List.push_toArray, List.append_toArray, List.nil_append, List.cons_append]
      gi_wp2_with (refine ⟨trivial, ?_⟩; refine (callsIn_wide.2 (word_each a0 _)).mono ?_; rintro e w' ⟨rfl, rfl⟩)
      have b0 := Boxed.new w StrsT (.slice none 0 0)
      have b1 := World.alloc_heap_new (w.alloc (.cells #[.slice none 0 0] StrsT)) (.cells #[.int .i64 0, .int .i64 0] FltT)
      have b2 := Boxed.new ((w.alloc (.cells #[.slice none 0 0] StrsT)).alloc (.cells #[.int .i64 0, .int .i64 0] FltT)) StrsT (.slice none 0 0)
      have b3 := Boxed.new (((w.alloc (.cells #[.slice none 0 0] StrsT)).alloc (.cells #[.int .i64 0, .int .i64 0] FltT)).alloc (.cells #[.slice none 0 0] StrsT)) 9 (.string a0)
      rw [World.size_alloc] at b1
      rw [World.size_alloc, World.size_alloc] at b2
      rw [World.size_alloc, World.size_alloc, World.size_alloc] at b3
      obtain ⟨W0, hW0⟩ : ∃ W0, (((w.alloc (.cells #[.slice none 0 0] StrsT)).alloc (.cells #[.int .i64 0, .int .i64 0] FltT)).alloc (.cells #[.slice none 0 0] StrsT)).alloc (.cells #[.string a0] 9) = W0 := ⟨_, rfl⟩
      have hB0 : Below w.heap.size w W0 := hW0 ▸ below_alloc (below_alloc (below_alloc (below_alloc (Below.refl _ _) _) _) _) _
      have hz : W0.heap.size = w.heap.size + 4 := by rw [← hW0]; simp
      have hm0 : MaxL W0 := max_below hGMaxL hB0
      have hI0 : LinesI w [] W0 := ⟨by simp, ⟨.slice none 0 0, hW0 ▸ b2.alloc _, World.ownsRow_nil _ _ _ _⟩, hW0 ▸ ((b0.alloc _).alloc _).alloc _, hW0 ▸ (Boxed_alloc2 b1), hB0, by omega⟩
      have hb3 : Boxed W0 (w.heap.size + 1 + 1 + 1) 9 (.string a0) := hW0 ▸ b3
      have hlen : (0 : Nat) < w.heap.size := by
        obtain ⟨m, hm⟩ := hGMaxL
        exact World.block_lt_of_cell? w _ hm
      rw [hW0]
      clear b0 b1 b2 b3 hW0
      refine range_box rfl (by decide) (gf := 128) (lb := #[.pointer (some ⟨w.heap.size + 1 + 1 + 1, 0, none⟩)]) rfl trivial (enters_of Tryd.func128 (by kernel_rfl) rfl) (fun _ => rfl) (b := w.heap.size + 1 + 1 + 1) (by omega)
        (by rintro i (rfl | rfl) <;> omega) (each_seq 8 a0 (w.heap.size + 1 + 1 + 1) (by omega)) (fun W hW => ⟨(hW.block _ (by omega)).trans hb3, max_below hm0 hW⟩)
        (LinesI w) (LinesX w) (hz ▸ linesI_holds w) (fun c => hz ▸ linesX_holds w c) hI0
        (fun x => { tmps := #[.string a0, undef, .pointer (some ⟨w.heap.size, 0, none⟩), .pointer (some ⟨w.heap.size + 1, 0, none⟩), .pointer (some ⟨w.heap.size + 1 + 1, 0, none⟩), .string x.1, .bool x.2, .string a0, .int .i64 a0.size, .bool false, undef, .string a0, .func (.func 128) #[] #[.pointer (some ⟨w.heap.size + 1 + 1 + 1, 0, none⟩)], .string x.1, .bool x.2, undef, undef, undef, undef, undef, undef, undef, undef, undef, undef, undef, undef, undef, undef, undef, undef, undef], defers := [] }) ?assign ?body ?done ?stop
      case assign =>
        intro l x W K hK
        gi_wp2
        exact hK
      case body =>
        rintro l pre ⟨line, ended⟩ W hI hN
        have HI := Aside0.mk hI
        obtain ⟨h1, ⟨v, hv, hrow⟩, h2, h3, h4, h5⟩ := hI
        obtain ⟨A, cp, rfl⟩ := own_slice hrow
        have hc := hv.cell
        have hfr := hv.frozen
        have hc2 := h2.cell
        have hf2 := h2.frozen
        have hc3 := blk_cell h3 0
        have hc4 := blk_cell h3 1
        have hf3 := blk_frozen h3 0
        have hf4 := blk_frozen h3 1
        simp only [List.getElem?_toArray, List.getElem?_cons_zero, List.getElem?_cons_succ] at hc3 hc4
        cases ended with
        | false =>
          gi_wp2
          have hboth := linesX_both w W pre (line, false) h1 rfl h2 h3 h4 h5
          obtain ⟨hXA, hXB⟩ := hboth
          have HXA := Aside0.mk hXA
          have HXB := Aside0.mk hXB
          have hw := IntWalk.i64_in ((pre.length : Int) + 1) (by omega)
          clear hXA hXB h1 h2 h3 hv hrow
          refine ⟨trivial, ?_⟩
          gi_wp2
          gi_region
          all_goals gi_wp2
          all_goals first | exact HXA.out | exact HXB.out
        | true =>
          clear hc hfr hc2 hf2 hf3 hf4 hc3 hc4 h1 h2 h3 h4 h5 hv hrow
          obtain ⟨bb, hbb⟩ : ∃ bb, bb = (bl line).all seen := ⟨_, rfl⟩
          have HP := Aside0.mk (word_plain.calls line bb W (by unfold word_plain.f; rw [hbb]))
          have HBB := Aside0.mk hbb
          clear hbb
          gi_wp2_with fail
          refine ⟨trivial, ?_⟩
          refine (CallsIn.inRound l (callsIn_wide.2 HP.out)).mono ?_
          rintro e W1 ⟨rfl, hb⟩
          have hI1 := linesI_holds w pre W W1 none HI.out (grown_of_below hb none) (fun r e => by cases e)
          have hK1 := KeepsOthers.of_grownBy (grown_of_below hb none) (fun j o e => by cases e)
          have hS1 : SameBlk (fun i => i = w.heap.size + 1 + 1 + 1 ∨ i = 0) W W1 := by
            have := HI.out.2.2.2.2.2
            rintro i (rfl | rfl)
            · exact hb.block _ (by omega)
            · exact hb.block _ (by omega)
          have HK1 := Aside0.mk hK1
          have HS1 := Aside0.mk hS1
          clear HI HP hb hK1 hS1
          obtain ⟨h1, ⟨v, hv, hrow⟩, h2, h3, h4, h5⟩ := hI1
          obtain ⟨A, cp, rfl⟩ := own_slice hrow
          have hc := hv.cell
          have hfr := hv.frozen
          have hc2 := h2.cell
          have hf2 := h2.frozen
          have hc3 := blk_cell h3 0
          have hc4 := blk_cell h3 1
          have hf3 := blk_frozen h3 0
          have hf4 := blk_frozen h3 1
          simp only [List.getElem?_toArray, List.getElem?_cons_zero, List.getElem?_cons_succ] at hc3 hc4
          cases bb with
          | false =>
            have hboth := linesX_both w W1 pre (line, true) h1 (by unfold goodS; rw [← HBB.out]; rfl) h2 h3 h4 h5
            obtain ⟨⟨hXA1, hXA2⟩, ⟨hXB1, hXB2⟩⟩ := hboth
            have HXA := Aside0.mk (And.intro (HK1.out.trans hXA1) hXA2)
            have HXB := Aside0.mk (And.intro (HK1.out.trans hXB1) hXB2)
            have hw := IntWalk.i64_in ((pre.length : Int) + 1) (by omega)
            clear hXA1 hXB1 hXA2 hXB2 h1 h2 h3 hv hrow
            gi_wp2
            gi_region
            all_goals gi_wp2
            all_goals first | exact HXA.out | exact HXB.out
          | true =>
            have hgd : goodS (line, true) = true := by unfold goodS; rw [← HBB.out]; rfl
            have HN := Aside0.mk (fun w1 v' o => linesI_next w W1 w1 pre line _ v' o hlen h1 hgd hv hrow h2 h3 h4 h5)
            have HR := Aside0.mk hrow
            have hlen1 : pre.length ≤ 65537 := by omega
            clear hc2 hf2 hc3 hc4 hf3 hf4 h1 h2 h3 h4 hv hrow hgd hfr
            gi_wp2_with (gi_at_builtin; refine wpListIn_append_own _ rfl _ _ StrsT rfl (w.heap.size + 4) 9 i0 (.string ⟨#[]⟩) 1 16 Tryd.underlying57 hi hz0 hz1 hz2 rfl (by decide) _ _ _ rfl (HR.out.alloc _) ⟨W1.heap.size, 0, none⟩ 1 1 [.string line] rfl rfl (cell_one_new _ _ _) (by simp [Value.oneCell']) (by unfold maxLen; omega) (by omega) (by simp; omega) ?_; intro v' w1 hown' hgrow _; obtain ⟨g', cap', rfl⟩ := ownsRow_succ hown'; obtain ⟨hv1, hk2, hs2, hi2⟩ := HN.out w1 _ _ hown' hgrow; have hc1 := hv1.cell; have hf1 := hv1.frozen; have HF := Aside0.mk (And.intro (HK1.out.trans hk2) (And.intro (fun i hi => (hs2 i hi).trans (HS1.out i hi)) hi2)); clear hk2 hs2 hi2 hown' hgrow hv1)
            exact HF.out
      case done =>
        rintro D xs W hD rfl ⟨h1, ⟨v, hv, hrow⟩, h2, h3, h4, h5⟩ hK
        have hr := HRun.out
        rw [run_good _ [] h1] at hr
        simp only [List.nil_append, Prod.mk.injEq] at hr
        obtain ⟨rfl, rfl, rfl⟩ := hr
        obtain ⟨A, cp, rfl⟩ := own_slice hrow
        have hc := hv.cell
        have hc2 := h2.cell
        have hf2 := h2.frozen
        have hc3 := blk_cell h3 0
        have hc4 := blk_cell h3 1
        have hf3 := blk_frozen h3 0
        have hf4 := blk_frozen h3 1
        simp only [List.getElem?_toArray, List.getElem?_cons_zero, List.getElem?_cons_succ] at hc3 hc4
        have HE := Aside0.mk (lines_end w (((W.setCell ⟨w.heap.size, 0, none⟩ (.slice A (segsF a0.size (bl a0)).length cp)).setCell ⟨w.heap.size + 1, 0, none⟩ (.int .i64 0)).setCell ⟨w.heap.size + 1, 1, none⟩ (.int .i64 0)) D 0 0 (.slice A (segsF a0.size (bl a0)).length cp) ((segsF a0.size (bl a0)).map (·.1)) (by omega)
          ((((KeepsOthers.setCell _ _ _).trans (KeepsOthers.setCell _ _ _)).trans (KeepsOthers.setCell _ _ _)).same D _ hK rfl)
          (blk_far (blk_far (h2.set _) (p := ⟨w.heap.size + 1, 0, none⟩) (by simp) _) (p := ⟨w.heap.size + 1, 1, none⟩) (by simp) _)
          (by
            have := blk_set (blk_set (blk_far h3 (p := ⟨w.heap.size, 0, none⟩) (by simp) (.slice A (segsF a0.size (bl a0)).length cp)) 0 (.int .i64 0)) 1 (.int .i64 0)
            simpa only [List.setIfInBounds_toArray, List.set_cons_zero, List.set_cons_succ] using this)
          (((h4.setCell (p := ⟨w.heap.size, 0, none⟩) (Nat.le_refl _) _).setCell (p := ⟨w.heap.size + 1, 0, none⟩) (by simp) _).setCell (p := ⟨w.heap.size + 1, 1, none⟩) (by simp) _)
          (by
            have n1 := h2.not_row (by decide) hrow
            have n2 := own_ne hrow h3 (by decide)
            have := own_setCell (own_setCell (own_setCell hrow (p := ⟨w.heap.size, 0, none⟩) n1 (.slice A (segsF a0.size (bl a0)).length cp)) (p := ⟨w.heap.size + 1, 0, none⟩) n2 (.int .i64 0)) (p := ⟨w.heap.size + 1, 1, none⟩) n2 (.int .i64 0)
            rw [List.length_map, List.map_map]
            exact this))
        have HK2 := Aside0.mk ((((KeepsOthers.setCell W ⟨w.heap.size, 0, none⟩ (.slice A (segsF a0.size (bl a0)).length cp)).trans (KeepsOthers.setCell _ ⟨w.heap.size + 1, 0, none⟩ (.int .i64 0))).trans (KeepsOthers.setCell _ ⟨w.heap.size + 1, 1, none⟩ (.int .i64 0))).same D _ hK rfl)
        clear h1 h2 h3 h4 h5 hv hrow
        gi_wp2
        refine ⟨by simp, .inl ⟨_, _, rfl, run_takeDeferred HK2.out, ?_⟩⟩
        obtain ⟨⟨q0, q1, q2⟩, q3, q4⟩ := HE.out
        refine ⟨.tuple #[.slice A (segsF a0.size (bl a0)).length cp, .agg #[.int .i64 0, .int .i64 0]], ?_, _, rfl, q3, q4⟩
        simp [results, Tryd.results40, go_sem, q0, q1, q2]
      case stop =>
        rintro D c pre W hD ⟨rest, hSp⟩ ⟨rfl, q, x, h0, h1, hx, h2, h3, h4, h5⟩ hK
        have hr := HRun.out
        rw [← hSp, h0, List.append_assoc, List.singleton_append, run_bad q x rest [] h1 hx] at hr
        simp only [List.length_nil, Prod.mk.injEq] at hr
        obtain ⟨rfl, rfl, rfl⟩ := hr
        obtain ⟨⟨q0, q1, q2⟩, q3, q4⟩ := lines_end w W D 1 ((q.length : Int) + 1) (.slice none 0 0) [] (by omega) hK h2 h3 h4 (World.ownsRow_nil _ _ _ _)
        gi_wp2
        refine ⟨by simp, .inl ⟨_, _, rfl, run_takeDeferred hK, ?_⟩⟩
        refine ⟨.tuple #[.slice none 0 0, .agg #[.int .i64 1, .int .i64 ((q.length : Int) + 1)]], ?_, _, by simp, q3, q4⟩
        simp [results, Tryd.results40, go_sem, q0, q1, q2]
  · cases h
end Go.Proofs.YtmlbfepibfobaaaDoor.Hand
end

section
namespace Go.Proofs.YtmlbfepibfobaaaDoor.Hand
open Go.RowKit Go.Shelf
/-! ### strings.Builder's writers: the kit's contracts at a table of numbers of our own -/
def bldRen : Go.Shelf.Ren := ⟨fun | 166 => 93 | 167 => 94 | 240 => 122 | 276 => 140 | n => n, fun | 0 => 0 | 3 => 3 | 4 => 4 | 5 => 5 | 9 => 9 | 20 => 20 | 37 => 22 | 70 => 100 | 72 => 102 | 75 => 104 | 80 => 40 | 164 => 154 | n => n, fun n => n⟩
theorem bldLays166 : Go.Proofs.Lays.n166 Tryd.prog bldRen := {
  mixed := by kernel_rfl
  f166 := Tryd.func93.trans (congrArg some (by kernel_rfl))
  f240 := Tryd.func122.trans (congrArg some (by kernel_rfl))
  f276 := Tryd.func140.trans (congrArg some (by kernel_rfl))
  t0 := Tryd.underlying0
  a0 := Tryd.isAgg0
  z0 := Tryd.sizeOf0
  v0 := Tryd.zeroValue0
  t3 := Tryd.underlying3
  a3 := Tryd.isAgg3
  z3 := Tryd.sizeOf3
  v3 := Tryd.zeroValue3
  t4 := Tryd.underlying4
  a4 := Tryd.isAgg4
  z4 := Tryd.sizeOf4
  v4 := Tryd.zeroValue4
  t9 := Tryd.underlying9
  a9 := Tryd.isAgg9
  z9 := Tryd.sizeOf9
  v9 := Tryd.zeroValue9
  t20 := Tryd.underlying20
  a20 := Tryd.isAgg20
  z20 := Tryd.sizeOf20
  v20 := Tryd.zeroValue20
  t37 := Tryd.underlying22
  a37 := Tryd.isAgg22
  z37 := Tryd.sizeOf22
  v37 := Tryd.zeroValue22
  t70 := Tryd.underlying100
  a70 := Tryd.isAgg100
  z70 := Tryd.sizeOf100
  v70 := Tryd.zeroValue100
  t72 := Tryd.underlying102
  a72 := Tryd.isAgg102
  z72 := Tryd.sizeOf102
  v72 := Tryd.zeroValue102
  t75 := Tryd.underlying104
  a75 := Tryd.isAgg104
  z75 := Tryd.sizeOf104
  v75 := Tryd.zeroValue104
  t164 := Tryd.underlying154
  a164 := Tryd.isAgg154
  z164 := Tryd.sizeOf154
  v164 := Tryd.zeroValue154 }
theorem bldLays167 : Go.Proofs.Lays.n167 Tryd.prog bldRen := {
  mixed := by kernel_rfl
  f167 := Tryd.func94.trans (congrArg some (by kernel_rfl))
  f240 := Tryd.func122.trans (congrArg some (by kernel_rfl))
  f276 := Tryd.func140.trans (congrArg some (by kernel_rfl))
  t0 := Tryd.underlying0
  a0 := Tryd.isAgg0
  z0 := Tryd.sizeOf0
  v0 := Tryd.zeroValue0
  t4 := Tryd.underlying4
  a4 := Tryd.isAgg4
  z4 := Tryd.sizeOf4
  v4 := Tryd.zeroValue4
  t5 := Tryd.underlying5
  a5 := Tryd.isAgg5
  z5 := Tryd.sizeOf5
  v5 := Tryd.zeroValue5
  t9 := Tryd.underlying9
  a9 := Tryd.isAgg9
  z9 := Tryd.sizeOf9
  v9 := Tryd.zeroValue9
  t20 := Tryd.underlying20
  a20 := Tryd.isAgg20
  z20 := Tryd.sizeOf20
  v20 := Tryd.zeroValue20
  t37 := Tryd.underlying22
  a37 := Tryd.isAgg22
  z37 := Tryd.sizeOf22
  v37 := Tryd.zeroValue22
  t70 := Tryd.underlying100
  a70 := Tryd.isAgg100
  z70 := Tryd.sizeOf100
  v70 := Tryd.zeroValue100
  t72 := Tryd.underlying102
  a72 := Tryd.isAgg102
  z72 := Tryd.sizeOf102
  v72 := Tryd.zeroValue102
  t75 := Tryd.underlying104
  a75 := Tryd.isAgg104
  z75 := Tryd.sizeOf104
  v75 := Tryd.zeroValue104
  t164 := Tryd.underlying154
  a164 := Tryd.isAgg154
  z164 := Tryd.sizeOf154
  v164 := Tryd.zeroValue154 }
theorem bldExtra : Builder.Extra Tryd.prog bldRen := {
  sizeBuilder := by kernel_rfl
  liesBuilder := by kernel_rfl
  t5 := Tryd.underlying5
  a5 := Tryd.isAgg5
  z5 := Tryd.sizeOf5
  v5 := Tryd.zeroValue5
  infoByte := by kernel_rfl
  cellsByte := by kernel_rfl
  sizeByte := by kernel_rfl
  neB5 := by decide }
end Go.Proofs.YtmlbfepibfobaaaDoor.Hand
end

section
namespace Go.Proofs.YtmlbfepibfobaaaDoor.Hand
open Go.RowKit Go.Shelf Go.Proofs.YtmlbfepibfobaaaDoorW.PrintWords Go.Proofs.YtmlbfepibfobaaaDoorW.PrintLast Go.Proofs.YtmlbfepibfobaaaDoorW.PrintMore
set_option linter.unusedVariables false
set_option linter.unusedSimpArgs false

/-! ### fields, as strings.Split tells them -/
theorem blank_until {x : List UInt8} (h : (32 : UInt8) ∉ x) : blank x = false := by
  unfold blank
  rw [List.any_eq_false]
  intro b hb
  rw [beq_iff_eq]
  rintro rfl
  exact h hb
theorem fields_until (l : List UInt8) : fieldsL l = match untilL 32 l with | some (x, r) => x :: fieldsL r | none => [l] := by
  cases hu : untilL 32 l with
  | none =>
    have h := (until_none l).1 hu
    unfold fieldsL
    rw [fld_last l [] (blank_until h)]
    rfl
  | some p =>
    obtain ⟨x, r⟩ := p
    obtain ⟨e, h⟩ := until_some l x r hu
    unfold fieldsL
    rw [e, fld_word x [] r (blank_until h)]
    rfl
theorem index_until (c : UInt8) (l : List UInt8) : (untilL c l = none ∧ Lib.index l [c] = -1) ∨ ∃ x r, untilL c l = some (x, r) ∧ Lib.index l [c] = (x.length : Int) ∧ l.take x.length = x ∧ l.drop (x.length + 1) = r := by
  have hc := cut_until c l
  have hge := Lib.index_ge l [c]
  have hroom := Lib.index_room l [c]
  unfold Lib.cut at hc
  cases hu : untilL c l with
  | none =>
    left
    rw [hu] at hc
    split at hc
    · simp at hc
    · exact ⟨rfl, by omega⟩
  | some p =>
    obtain ⟨x, r⟩ := p
    right
    rw [hu] at hc
    split at hc
    · rename_i hi
      simp only [Prod.mk.injEq, and_true] at hc
      have hr := hroom hi
      have hl : x.length = (Lib.index l [c]).toNat := by
        rw [← hc.1, List.length_take]
        simp at hr
        omega
      refine ⟨x, r, rfl, by omega, ?_, ?_⟩
      · rw [hl]; exact hc.1
      · rw [hl]; exact hc.2
    · simp at hc
theorem split_fields : ∀ (f : Nat) (l : List UInt8), l.length < f → Lib.splitK [32] 0 (Lib.countFrom [32] f l) l = fieldsL l ∧ (fieldsL l).length = Lib.countFrom [32] f l + 1
  | 0, l, h => by omega
  | f + 1, l, h => by
    rw [Lib.countFrom, fields_until]
    rcases index_until 32 l with ⟨h1, h2⟩ | ⟨x, r, h1, h2, h3, h4⟩
    · rw [h2, h1]
      simp [Lib.splitK]
    · have hx : (Lib.index l [32] == -1) = false := beq_eq_false_iff_ne.2 (by omega)
      have e : (Lib.index l [32]).toNat = x.length := by omega
      have hl := (until_some l x r h1).1
      have hr : r.length < f := by rw [hl] at h; simp at h; omega
      obtain ⟨i1, i2⟩ := split_fields f r hr
      rw [hx, h1]
      simp only [Bool.false_eq_true, if_false]
      have e2 : [(32 : UInt8)].length = 1 := rfl
      rw [e, e2, h4, Nat.add_comm 1, Lib.splitK, hx]
      simp only [Bool.false_eq_true, if_false]
      rw [e, Nat.add_zero, e2, h3, h4, i1]
      exact ⟨rfl, by rw [List.length_cons, i2]⟩
theorem join_line : ∀ l : List (List UInt8), Lib.join l [32] = lineL l
  | [] => rfl
  | [x] => by rw [Lib.join_one]; rfl
  | x :: y :: l => by
    have ih := join_line (y :: l)
    rw [Lib.join_cons] at ih ⊢
    rw [lineL_cons _ _ (by simp), ← ih]
    simp [Lib.joinTail]
end Go.Proofs.YtmlbfepibfobaaaDoor.Hand
end

section
namespace Go.Proofs.YtmlbfepibfobaaaDoor.Hand
open Go.RowKit Go.Shelf Go.Proofs.YtmlbfepibfobaaaDoorW.PrintWords Go.Proofs.YtmlbfepibfobaaaDoorW.PrintLast Go.Proofs.YtmlbfepibfobaaaDoorW.PrintMore
set_option linter.unusedVariables false
set_option linter.unusedSimpArgs false

theorem str_cells (s : ByteArray) : Lib.strCells s = Lib.byteCells (bl s) := rfl
theorem byteCells_append (a b : List UInt8) : Lib.byteCells (a ++ b) = Lib.byteCells a ++ Lib.byteCells b := by simp [Lib.byteCells]
theorem byteCells_len (a : List UInt8) : (Lib.byteCells a).length = a.length := by simp [Lib.byteCells]
theorem textL_take (l : List ByteArray) (i : Nat) (h : i < l.length) : textL ((l.map bl).take (i + 1)) = textL ((l.map bl).take i) ++ bl (rdOf ByteArray.empty l (i : Int)) ++ [10] := by
  have hr : rdOf ByteArray.empty l (i : Int) = l[i] := by simp [rdOf, List.getElem?_eq_getElem h]
  rw [List.take_succ_eq_append_getElem (by simpa using h), textL_append, hr]
  simp [textL]
theorem textL_take_le (l : List ByteArray) (i : Nat) : (textL ((l.map bl).take i)).length ≤ (textL (l.map bl)).length := by
  have := textL_append ((l.map bl).take i) ((l.map bl).drop i)
  rw [List.take_append_drop] at this
  rw [this]
  simp
def word_Text.f (l0 : List ByteArray) : Option ByteArray := if (textL (l0.map bl)).length ≤ 140737488355000 then some (lb (textL (l0.map bl))) else none
abbrev BldT : TypeId := 102
set_option maxHeartbeats 8000000 in
set_option maxRecDepth 100000 in
theorem word_Text.calls (A0 : Option Addr) (c0 : Nat) (l0 : List ByteArray) (r : ByteArray) (w : World) (hr0 : Kd.C Kd.string w A0 l0.length l0) (hc0 : l0.length ≤ c0) (h : word_Text.f l0 = some r) :
    Calls Tryd.prog 37 #[.slice A0 l0.length c0] w fun e w' => e = .returned (.string r) ∧ Below w.heap.size w w' := by
  unfold word_Text.f at h
  split at h
  · rename_i hg
    obtain rfl := Option.some.inj h
    clear h
    have HG := Aside0.mk hg
    have HR0 := Aside0.mk hr0
    have HC0 := Aside0.mk hc0
    have HM := Aside0.mk (Kd.C_max hr0)
    clear hr0 hc0 hg
    go_enter Tryd.func37, Tryd.ntmps37
    go_wp2
    go_loopw [8] (fun v8 wr => ∃ i : Nat, v8 = .int .i64 (i : Int) ∧ i ≤ l0.length ∧ Aside0 (Lib.IsBuilder BldT 5 w.heap.size w.heap.size (Lib.byteCells (textL ((l0.map bl).take i))) wr) ∧ Aside0 (Below w.heap.size w wr)) (fun v8 _ => l0.length - (intOf v8).toNat)
    case atStart =>
      exact ⟨0, rfl, Nat.zero_le _, ⟨.inl ⟨Nat.le_refl _, .slice none 0 0, blk_new _ _, World.ownsRow_nil _ _ _ _, by simp [Value.ownBlock]⟩⟩, ⟨below_alloc (Below.refl _ _) _⟩⟩
    case round =>
      obtain ⟨i, rfl, hi, HBd, HB⟩ := hrel
      by_cases hlt : i < l0.length
      · have hm := HM.out
        have p1 : (0 ≤ (i : Int)) = True := eq_true (by omega)
        have q1 : ((i : Int) < (l0.length : Int)) = True := eq_true (by omega)
        have d1 : decide ((i : Int) < (l0.length : Int)) = true := decide_eq_true (by omega)
        have d2 : decide (i < l0.length) = true := decide_eq_true hlt
        have d3 : decide (0 ≤ (i : Int)) = true := decide_eq_true (by omega)
        obtain ⟨ad, rfl, hcell⟩ := Kd.at_string (Kd.C_below HR0.out HB.out) (i : Int) (by omega) (by omega)
        have HT := Aside0.mk (textL_take l0 i hlt)
        have hle := textL_take_le l0 (i + 1)
        rw [HT.out] at hle
        simp only [List.length_append, List.length_singleton, bl_len] at hle
        obtain ⟨s, hs⟩ : ∃ s, s = rdOf ByteArray.empty l0 (i : Int) := ⟨_, rfl⟩
        rw [← hs, Int.toNat_natCast] at hcell
        rw [← hs] at hle HT
        clear hs
        have hw : IntKind.i64.wrap ((i : Int) + 1) = ((i + 1 : Nat) : Int) := by rw [IntKind.wrap_i64]; omega
        have HW1 := Aside0.mk (Any.Builder_WriteString bldLays166 bldExtra w.heap.size w.heap.size _ s wr HBd.out (by rw [byteCells_len]; have := HG.out; omega) HB.out.size)
        go_wp2_with fail
        refine HW1.out.mono ?_
        rintro e w1 ⟨rfl, hb1, hbl1⟩
        have HB1 := Aside0.mk (HB.out.trans hbl1)
        rw [str_cells, ← byteCells_append] at hb1
        have HW2 := Aside0.mk (Any.Builder_WriteByte bldLays167 bldExtra w.heap.size w.heap.size _ 10 w1 (.inr hb1) (by rw [byteCells_len]; simp only [List.length_append, bl_len]; have := HG.out; omega) HB1.out.size)
        clear hb1 hbl1 HW1 hcell
        go_wp2_with fail
        refine HW2.out.mono ?_
        rintro e w2 ⟨rfl, hb2, hbl2⟩
        have HB2 := Aside0.mk (HB1.out.trans hbl2)
        have HBd2 : Aside0 (Lib.IsBuilder BldT 5 w.heap.size w.heap.size (Lib.byteCells (textL ((l0.map bl).take (i + 1)))) w2) := ⟨.inr (by rw [HT.out, byteCells_append]; exact hb2)⟩
        clear hb2 hbl2 HW2 hle
        go_wp2
        go_roundw
        case rel => exact ⟨i + 1, by go_num, hlt, HBd2, HB2⟩
        case measure => simp [intOf]; omega
      · have hil : i = l0.length := by omega
        subst hil
        have d1 : decide ((l0.length : Int) < (l0.length : Int)) = false := decide_eq_false (by omega)
        have hfull : (l0.map bl).take l0.length = l0.map bl := List.take_of_length_le (by simp)
        have HS := Aside0.mk (Tryd.Builder_String_any w.heap.size w.heap.size (textL (l0.map bl)) wr (by rw [← hfull]; exact HBd.out) HB.out.size)
        clear hfull hlt
        go_wp2_with fail
        refine HS.out.mono ?_
        rintro e w1 ⟨rfl, hb1⟩
        have HB1 := Aside0.mk (HB.out.trans hb1)
        clear hb1
        go_wp2
        go_ret
        exact ⟨rfl, HB1.out⟩
  · cases h
end Go.Proofs.YtmlbfepibfobaaaDoor.Hand
end

section
-- Written by this session's program layer.py (the kit's print, turned), not by hand.
namespace Go.Proofs.YtmlbfepibfobaaaDoor.Q9
open Go.RowKit Go.Proofs.YtmlbfepibfobaaaDoorW.PrintWords Go.Proofs.YtmlbfepibfobaaaDoorW.PrintLast Go.Proofs.YtmlbfepibfobaaaDoorW.PrintMore
attribute [local go_sem] max2_int min2_int max_two min_two max_three min_three max_four min_four   -- for this text's walks alone
set_option linter.unusedVariables false
set_option linter.unusedSimpArgs false



def errW : Option Int → Value
  | none => .nilIface
  | some c => .iface 0 (.int .i64 c)
theorem errW_none : errW none = .nilIface := rfl
theorem errW_some (c : Int) : errW (some c) = .iface 0 (.int .i64 c) := rfl

theorem info9 : (Tryd.prog.info? 9).map (fun i => (i.zero, i.size, i.bytes)) = some (some (.string ⟨#[]⟩), 1, 16) := by kernel_rfl
-- the values' own types

end Go.Proofs.YtmlbfepibfobaaaDoor.Q9
end

section
-- Written by this session's program layer.py (the kit's print, turned), not by hand.
namespace Go.Proofs.YtmlbfepibfobaaaDoor.Q9
open Go.RowKit Go.Proofs.YtmlbfepibfobaaaDoorW.PrintWords Go.Proofs.YtmlbfepibfobaaaDoorW.PrintLast Go.Proofs.YtmlbfepibfobaaaDoorW.PrintMore
attribute [local go_sem] max2_int min2_int max_two min_two max_three min_three max_four min_four   -- for this text's walks alone
set_option linter.unusedVariables false
set_option linter.unusedSimpArgs false

/-! ### secateurref04_Lines: function 41 -/
def secateurref04_Lines.l0 : Nat → ByteArray → List ByteArray → Int → Int → Option (List ByteArray × Int × Int)
  | 0, _, _, _, _ => none
  | k + 1, x0, x4, x5, x6 => if x6 < (x0.size : Int) then (if 0 ≤ x6 then (if (bt x0 x6) = 10 then (if 0 ≤ x5 then (if x5 ≤ x6 then (if x6 ≤ (x0.size : Int) then (if x4.length < 8796093022208 then (secateurref04_Lines.l0 k x0 (x4 ++ [x0.extract (x5 : Int).toNat (x6 : Int).toNat]) (wrap64 (x6 + 1)) (wrap64 (x6 + 1))) else (none)) else (none)) else (none)) else (none)) else (if (bt x0 x6) < 32 then (some (([] : List ByteArray), 1, wrap64 ((x4.length : Int) + 1))) else (if (bt x0 x6) > 126 then (some (([] : List ByteArray), 1, wrap64 ((x4.length : Int) + 1))) else (secateurref04_Lines.l0 k x0 x4 x5 (wrap64 (x6 + 1)))))) else (none)) else (if x5 < (x0.size : Int) then (some (([] : List ByteArray), 1, wrap64 ((x4.length : Int) + 1))) else (some (x4, 0, 0)))
def secateurref04_Lines.f (k : Nat) (a0 : ByteArray) : Option (List ByteArray × Int × Int) := if (a0.size : Int) > 65536 then (some (([] : List ByteArray), 3, 0)) else (secateurref04_Lines.l0 k a0 ([] : List ByteArray) 0 0)
theorem secateurref04_Lines.mono_l : ∀ k, (∀ y0 y1 y2 y3, LeO (secateurref04_Lines.l0 k y0 y1 y2 y3) (secateurref04_Lines.l0 (k + 1) y0 y1 y2 y3))
  | 0 => fun _ _ _ _ r h => by simp [secateurref04_Lines.l0] at h
  | k + 1 => by
    have ih0 := secateurref04_Lines.mono_l k
    · intro y0 y1 y2 y3
      unfold secateurref04_Lines.l0
      repeat' first
      | (with_reducible exact ih0 _ _ _ _)
      | (with_reducible exact LeO.refl _)
      | (with_reducible exact LeO.none _)
      | (with_reducible refine LeO.ite ?_ ?_)
      | (with_reducible refine LeO.bind ?_ (fun _ => ?_))
      | exact ih0 _ _ _ _
      | exact LeO.none _
      | refine LeO.ite ?_ ?_
      | refine LeO.bind ?_ (fun _ => ?_)
theorem secateurref04_Lines.mono : ∀ a0 k, LeO (secateurref04_Lines.f k a0) (secateurref04_Lines.f (k + 1) a0) := by
  intro a0 k
  have ih0 := secateurref04_Lines.mono_l k
  unfold secateurref04_Lines.f
  repeat' first
      | (with_reducible exact ih0 _ _ _ _)
      | (with_reducible exact LeO.refl _)
      | (with_reducible exact LeO.none _)
      | (with_reducible refine LeO.ite ?_ ?_)
      | (with_reducible refine LeO.bind ?_ (fun _ => ?_))
      | exact ih0 _ _ _ _
      | exact LeO.none _
      | refine LeO.ite ?_ ?_
      | refine LeO.bind ?_ (fun _ => ?_)
set_option maxHeartbeats 8000000 in
set_option maxRecDepth 100000 in
theorem secateurref04_Lines.calls (k : Nat) (a0 : ByteArray) (r1 : List ByteArray) (r2 : Int) (r3 : Int) (w : World) (h : secateurref04_Lines.f k a0 = some (r1, r2, r3)) :
    Calls Tryd.prog 41 #[.string a0] w fun e w' => ∃ v0_ : Value, e = .returned (.tuple #[v0_, .agg #[.int .i64 r2, .int .i64 r3]]) ∧ Kd.R Kd.string 9 w' w.heap.size (fun _ => True) v0_ r1 ∧ Below w.heap.size w w' := by
  have hu31 := Tryd.underlying31
  have HB := Aside0.mk (Below.refl w.heap.size w)
  have H : (if (a0.size : Int) > 65536 then (some (([] : List ByteArray), 3, 0)) else (secateurref04_Lines.l0 k a0 ([] : List ByteArray) 0 0)) = some (r1, r2, r3) := h
  clear h
  by_cases c2 : (a0.size : Int) > 65536
  · rw [if_pos c2] at H
    have c2b0 : decide (65536 < (a0.size : Int)) = true := decide_eq_true c2
    have c2b1 : decide (65536 < a0.size) = true := decide_eq_true (by omega)
    clear c2
    simp only [Option.some.injEq, Prod.mk.injEq] at H
    obtain ⟨rfl, rfl, rfl⟩ := H
    go_enter Tryd.func41, Tryd.ntmps41
    go_wp2_with (first | ((with_reducible refine gate_dst (N := 3) rfl ?_); refine box_event ?hg (N := 3) ?hd (cs := #[.int .i64 0, .int .i64 0]) (t := 31) ?hr ?_; (case hd => rfl); (case hg => rfl); (case hr => first | (go_simp; done) | (go_simp; rfl)); intro gb101 hg w3 hbox hb; have n0_ := Aside0.mk (below_step (by repeat (first | (with_reducible first | exact HB.out | apply below_alloc | apply pw_below_drewN | apply below_drew1) | exact HB.out)) hb); have n1_ := Aside0.mk (hbox); have n2_ := Aside0.mk ((by rw [hg]; exact (below_size (by repeat (first | (with_reducible first | exact HB.out | apply below_alloc | apply pw_below_drewN | apply below_drew1) | exact HB.out))) : w.heap.size ≤ gb101)); have n3_ := Aside0.mk ((by rw [hg]; exact (below_size (by repeat (first | (with_reducible first | exact HB.out | apply below_alloc | apply pw_below_drewN | apply below_drew1) | exact HB.out))) : w.heap.size ≤ gb101)); clear HB; have HB := n0_; have BK101 := n1_; have GW101 := n2_; have GE101 := n3_; clear n0_ n1_ n2_ n3_; clear hb hbox hg; have hcz4_0 : w3.cell? ⟨gb101, 0, none⟩ = some (.int .i64 0) := (blk_cell BK101.out 0).trans rfl; have hcz4_1 : w3.cell? ⟨gb101, 1, none⟩ = some (.int .i64 0) := (blk_cell BK101.out 1).trans rfl; have hfz4_0 := blk_frozen BK101.out 0; have hfz4_1 := blk_frozen BK101.out 1))
    refine bodyPost_ret (results_tc rfl _ _ gb101 31 #[.int .i64 3, .int .i64 0] (0, 0) _ rfl (by (with_reducible repeat (first | refine blk_drewN ?_ _ | refine blk_drew ?_ | refine blk_alloc ?_ _)); refine blk_put (cs := #[.int .i64 3, .int .i64 0]) ?_ 1 _ rfl; (with_reducible repeat (first | refine blk_drewN ?_ _ | refine blk_drew ?_ | refine blk_alloc ?_ _)); refine blk_put (cs := #[.int .i64 0, .int .i64 0]) ?_ 0 _ rfl; (with_reducible repeat (first | refine blk_drewN ?_ _ | refine blk_drew ?_ | refine blk_alloc ?_ _)); exact BK101.out) Tryd.underlying31 rfl (by kernel_rfl)) rfl ?_
    exact ⟨_, by first | rfl | (simp [errW_none, errW_some] <;> rfl) | (simp [*, errW_none, errW_some] <;> rfl), by first | exact Kd.R_nil _ _ _ _ _ | exact Kd.N_nil _ _ _ _ _ | exact Kd.V_nil _ _ _ _ _ | exact Kd.Q_nil _ _ _ _ _ | exact Kd.S_nil _ _ _ _ _, by repeat (first | (with_reducible first | exact HB.out | apply below_alloc | apply pw_below_drewN | apply below_drew1 | refine below_set ?_ GE101.out) | exact HB.out)⟩
  · rw [if_neg c2] at H
    have c2b0 : decide (65536 < (a0.size : Int)) = false := decide_eq_false c2
    have c2b1 : decide (65536 < a0.size) = false := decide_eq_false (by omega)
    clear c2
    have H' := Aside0.mk H
    clear H
    go_enter Tryd.func41, Tryd.ntmps41
    go_wp2_with (first | ((with_reducible refine gate_dst (N := 3) rfl ?_); refine box_event ?hg (N := 3) ?hd (cs := #[.int .i64 0, .int .i64 0]) (t := 31) ?hr ?_; (case hd => rfl); (case hg => rfl); (case hr => first | (go_simp; done) | (go_simp; rfl)); intro gb101 hg w5 hbox hb; have n0_ := Aside0.mk (below_step (by repeat (first | (with_reducible first | exact HB.out | apply below_alloc | apply pw_below_drewN | apply below_drew1) | exact HB.out)) hb); have n1_ := Aside0.mk (hbox); have n2_ := Aside0.mk ((by rw [hg]; exact (below_size (by repeat (first | (with_reducible first | exact HB.out | apply below_alloc | apply pw_below_drewN | apply below_drew1) | exact HB.out))) : w.heap.size ≤ gb101)); have n3_ := Aside0.mk ((by rw [hg]; exact (below_size (by repeat (first | (with_reducible first | exact HB.out | apply below_alloc | apply pw_below_drewN | apply below_drew1) | exact HB.out))) : w.heap.size ≤ gb101)); clear HB; have HB := n0_; have BK101 := n1_; have GW101 := n2_; have GE101 := n3_; clear n0_ n1_ n2_ n3_; clear hb hbox hg))
    go_loopg [4, 5, 6] k (fun kq v4 v5 v6 w' => ∃ (x4_1 : List ByteArray) (x5_1 : Int) (x6_1 : Int) (x102000_1 : Int) (x102001_1 : Int), v5 = .int .i64 x5_1 ∧ v6 = .int .i64 x6_1 ∧ Aside0 (secateurref04_Lines.l0 kq a0 x4_1 x5_1 x6_1 = some (r1, r2, r3)) ∧ Aside0 (kq ≤ k) ∧ Aside0 (Kd.R Kd.string 9 w' w.heap.size (fun _ => True) v4 x4_1) ∧ Aside0 (w'.heap[gb101]? = some (.cells #[.int .i64 x102000_1, .int .i64 x102001_1] 31 (0, 0))) ∧ Aside0 (Below w.heap.size w w'))
    case atStart => exact ⟨(([] : List ByteArray)), (0), (0), (0), (0), (by first | rfl | (simp; done) | (simp [*]; done)), (by first | rfl | (simp; done) | (simp [*]; done)), H', ⟨Nat.le_refl _⟩, ⟨by first | exact Kd.R_nil _ _ _ _ _ | exact Kd.N_nil _ _ _ _ _ | exact Kd.V_nil _ _ _ _ _ | exact Kd.Q_nil _ _ _ _ _ | exact Kd.S_nil _ _ _ _ _⟩, ⟨by (with_reducible repeat (first | refine blk_drewN ?_ _ | refine blk_drew ?_ | refine blk_alloc ?_ _)); exact BK101.out⟩, ⟨by repeat (first | (with_reducible first | exact HB.out | apply below_alloc | apply pw_below_drewN | apply below_drew1 | refine below_set ?_ GE101.out) | exact HB.out)⟩⟩
    case round =>
      clear H'
      try clear c2
      try clear c2b0
      try clear c2b1
      try clear p2
      try clear c4
      try clear hcz4_0
      try clear hcz4_1
      try clear hfz4_0
      try clear hfz4_1
      obtain ⟨x4_1, x5_1, x6_1, x102000_1, x102001_1, rfl, rfl, HA, HK1, HO_4, BK101, HB⟩ := hrel
      cases gk with
      | zero => exact absurd HA.out (by simp [secateurref04_Lines.l0])
      | succ k1 =>
        have H := HA.out
        clear HA
        simp only [secateurref04_Lines.l0] at H
        by_cases c6 : x6_1 < (a0.size : Int)
        · rw [if_pos c6] at H
          have c6b0 : decide (x6_1 < (a0.size : Int)) = true := decide_eq_true c6
          clear c6
          by_cases c7 : 0 ≤ x6_1
          · rw [if_pos c7] at H
            have c7b0 : decide (0 ≤ x6_1) = true := decide_eq_true c7
            clear c7
            by_cases c9 : (bt a0 x6_1) = 10
            · rw [if_pos c9] at H
              have c9b0 : ((bt a0 x6_1) == 10) = true := beq_iff_eq.mpr c9
              have c9b1 : ((bt a0 x6_1) != 10) = false := bne_eq_false_iff_eq.mpr c9
              clear c9
              by_cases c10 : 0 ≤ x5_1
              · rw [if_pos c10] at H
                have c10b0 := eq_true c10
                have c10b1 : decide (0 ≤ x5_1) = true := decide_eq_true c10
                clear c10
                by_cases c11 : x5_1 ≤ x6_1
                · rw [if_pos c11] at H
                  have c11b0 := eq_true c11
                  have c11b1 : decide (x5_1 ≤ x6_1) = true := decide_eq_true c11
                  clear c11
                  by_cases c12 : x6_1 ≤ (a0.size : Int)
                  · rw [if_pos c12] at H
                    have c12b0 := eq_true c12
                    have c12b1 : decide (x6_1 ≤ (a0.size : Int)) = true := decide_eq_true c12
                    clear c12
                    by_cases c13 : x4_1.length < 8796093022208
                    · rw [if_pos c13] at H
                      have LMc13 := Aside0.mk c13
                      clear c13
                      obtain ⟨y102, hy102⟩ : ∃ y_ : List ByteArray, y_ = (x4_1 ++ [a0.extract (x5_1 : Int).toNat (x6_1 : Int).toNat]) := ⟨_, rfl⟩
                      replace H : (secateurref04_Lines.l0 k1 a0 y102 (wrap64 (x6_1 + 1)) (wrap64 (x6_1 + 1))) = some (r1, r2, r3) := by first | (rw [hy102]; with_reducible exact H) | (have H2_ := (Option.bind_some _ _).symm.trans H; rw [hy102]; with_reducible exact H2_) | (have H2_ := (Option.bind_some _ _).symm.trans H; with_reducible exact H2_) | with_reducible exact H | (rw [hy102]; exact H) | exact H
                      have Ny102 := Aside0.mk hy102
                      clear hy102
                      have H' := Aside0.mk H
                      clear H
                      have p8 : 0 ≤ (x6_1 : Int) := of_decide_eq_true (by first | (with_reducible assumption) | assumption)
                      have q8 : x6_1 < (a0.size : Int) := of_decide_eq_true (by first | (with_reducible assumption) | assumption)
                      have hx8 := bt_at a0 x6_1
                      replace p8 := eq_true p8
                      replace q8 := eq_true q8
                      go_wp2_with (first | ((with_reducible refine gate_builtin (b := .append) (xs := #[.tmp 21, .tmp 26]) rfl ?_); at_builtin; refine Kd.R_append Kd.string (w0 := w) w.heap.size rfl (.tmp 21) (.tmp 26) 57 9 (.string ⟨#[]⟩) 16 rfl Tryd.underlying57 info9 rfl (by decide) (by omega) u4 x4_1 (a0.extract (x5_1 : Int).toNat (x6_1 : Int).toNat) [.string (a0.extract (x5_1 : Int).toNat (x6_1 : Int).toNat)] (fun _ => True) (fun _ => False) rfl rfl ?aP (fun _ hk => hk.elim) ?aF ?aO ?aB ?aS ?aL ?_; (case aP => exact rfl); (case aB => exact (by repeat (first | (with_reducible first | exact HB.out | apply below_alloc | apply pw_below_drewN | apply below_drew1 | refine below_set ?_ GE101.out) | exact HB.out))); (case aF => exact (fun _ _ => trivial)); (case aO => exact (by (with_reducible repeat (first | apply Kd.R_alloc | apply Kd.R_drewN | apply Kd.R_drew)); exact HO_4.out)); (case aS => exact (below_size (by repeat (first | (with_reducible first | exact HB.out | apply below_alloc | apply pw_below_drewN | apply below_drew1 | refine below_set ?_ GE101.out) | exact HB.out)))); (case aL => have := LMc13.out; omega); intro v103 w14 ho hb hg hat; rw [← Ny102.out] at ho; have n0_ := Aside0.mk (blk_grown (g := gb101) (o := .cells #[.int .i64 x102000_1, .int .i64 x102001_1] 31 (0, 0)) (by (with_reducible repeat (first | refine blk_drewN ?_ _ | refine blk_drew ?_ | refine blk_alloc ?_ _)); exact BK101.out) hg (Kd.R_ne HO_4.out BK101.out (by decide))); have n1_ := Aside0.mk (hb); have n2_ := Aside0.mk (ho); clear BK101; clear HB; clear HO_4; have BK101 := n0_; have HB := n1_; have HO104 := n2_; clear n0_ n1_ n2_; clear ho hb hg hat))
                      go_roundg k1
                      case measure => have := HK1.out; omega
                      case rel => exact ⟨(y102), (wrap64 (x6_1 + 1)), (wrap64 (x6_1 + 1)), (x102000_1), (x102001_1), (by first | rfl | (simp; done) | (simp [*]; done)), (by first | rfl | (simp; done) | (simp [*]; done)), H', ⟨by have := HK1.out; omega⟩, ⟨by (with_reducible repeat (first | apply Kd.R_alloc | apply Kd.R_drewN | apply Kd.R_drew)); exact HO104.out⟩, ⟨by (with_reducible repeat (first | refine blk_drewN ?_ _ | refine blk_drew ?_ | refine blk_alloc ?_ _)); exact BK101.out⟩, ⟨by repeat (first | (with_reducible first | exact HB.out | apply below_alloc | apply pw_below_drewN | apply below_drew1 | refine below_set ?_ GE101.out) | exact HB.out)⟩⟩
                    · rw [if_neg c13] at H
                      exact absurd H (by simp)
                  · rw [if_neg c12] at H
                    exact absurd H (by simp)
                · rw [if_neg c11] at H
                  exact absurd H (by simp)
              · rw [if_neg c10] at H
                exact absurd H (by simp)
            · rw [if_neg c9] at H
              have c9b0 : ((bt a0 x6_1) == 10) = false := beq_eq_false_iff_ne.mpr c9
              have c9b1 : ((bt a0 x6_1) != 10) = true := bne_iff_ne.mpr c9
              by_cases c16 : (bt a0 x6_1) < 32
              · rw [if_pos c16] at H
                have c16b0 : decide ((bt a0 x6_1) < 32) = true := decide_eq_true c16
                clear c16
                simp only [Option.some.injEq, Prod.mk.injEq] at H
                obtain ⟨rfl, rfl, rfl⟩ := H
                have p8 : 0 ≤ (x6_1 : Int) := of_decide_eq_true (by first | (with_reducible assumption) | assumption)
                have q8 : x6_1 < (a0.size : Int) := of_decide_eq_true (by first | (with_reducible assumption) | assumption)
                have hx8 := bt_at a0 x6_1
                replace p8 := eq_true p8
                replace q8 := eq_true q8
                have p15 : 0 ≤ (x6_1 : Int) := of_decide_eq_true (by first | (with_reducible assumption) | assumption)
                have q15 : x6_1 < (a0.size : Int) := of_decide_eq_true (by first | (with_reducible assumption) | assumption)
                have hx15 := bt_at a0 x6_1
                replace p15 := eq_true p15
                replace q15 := eq_true q15
                obtain ⟨Ao17, co17, eo17⟩ := Kd.R_slice HO_4.out
                subst eo17
                have hcz18_0 : wr.cell? ⟨gb101, 0, none⟩ = some (.int .i64 x102000_1) := (blk_cell BK101.out 0).trans rfl
                have hcz18_1 : wr.cell? ⟨gb101, 1, none⟩ = some (.int .i64 x102001_1) := (blk_cell BK101.out 1).trans rfl
                have hfz18_0 := blk_frozen BK101.out 0
                have hfz18_1 := blk_frozen BK101.out 1
                go_wp2
                refine bodyPost_ret (results_tc rfl _ _ gb101 31 #[.int .i64 1, .int .i64 (wrap64 ((x4_1.length : Int) + 1))] (0, 0) _ rfl (by (with_reducible repeat (first | refine blk_drewN ?_ _ | refine blk_drew ?_ | refine blk_alloc ?_ _)); refine blk_put (cs := #[.int .i64 1, .int .i64 x102001_1]) ?_ 1 _ rfl; (with_reducible repeat (first | refine blk_drewN ?_ _ | refine blk_drew ?_ | refine blk_alloc ?_ _)); refine blk_put (cs := #[.int .i64 x102000_1, .int .i64 x102001_1]) ?_ 0 _ rfl; (with_reducible repeat (first | refine blk_drewN ?_ _ | refine blk_drew ?_ | refine blk_alloc ?_ _)); exact BK101.out) Tryd.underlying31 rfl (by kernel_rfl)) rfl ?_
                exact ⟨_, by first | rfl | (simp [errW_none, errW_some] <;> rfl) | (simp [*, errW_none, errW_some] <;> rfl), by first | exact Kd.R_nil _ _ _ _ _ | exact Kd.N_nil _ _ _ _ _ | exact Kd.V_nil _ _ _ _ _ | exact Kd.Q_nil _ _ _ _ _ | exact Kd.S_nil _ _ _ _ _, by repeat (first | (with_reducible first | exact HB.out | apply below_alloc | apply pw_below_drewN | apply below_drew1 | refine below_set ?_ GE101.out) | exact HB.out)⟩
              · rw [if_neg c16] at H
                have c16b0 : decide ((bt a0 x6_1) < 32) = false := decide_eq_false c16
                clear c16
                by_cases c20 : (bt a0 x6_1) > 126
                · rw [if_pos c20] at H
                  have c20b0 : decide (126 < (bt a0 x6_1)) = true := decide_eq_true c20
                  clear c20
                  simp only [Option.some.injEq, Prod.mk.injEq] at H
                  obtain ⟨rfl, rfl, rfl⟩ := H
                  have p8 : 0 ≤ (x6_1 : Int) := of_decide_eq_true (by first | (with_reducible assumption) | assumption)
                  have q8 : x6_1 < (a0.size : Int) := of_decide_eq_true (by first | (with_reducible assumption) | assumption)
                  have hx8 := bt_at a0 x6_1
                  replace p8 := eq_true p8
                  replace q8 := eq_true q8
                  have p15 : 0 ≤ (x6_1 : Int) := of_decide_eq_true (by first | (with_reducible assumption) | assumption)
                  have q15 : x6_1 < (a0.size : Int) := of_decide_eq_true (by first | (with_reducible assumption) | assumption)
                  have hx15 := bt_at a0 x6_1
                  replace p15 := eq_true p15
                  replace q15 := eq_true q15
                  have p19 : 0 ≤ (x6_1 : Int) := of_decide_eq_true (by first | (with_reducible assumption) | assumption)
                  have q19 : x6_1 < (a0.size : Int) := of_decide_eq_true (by first | (with_reducible assumption) | assumption)
                  have hx19 := bt_at a0 x6_1
                  replace p19 := eq_true p19
                  replace q19 := eq_true q19
                  obtain ⟨Ao21, co21, eo21⟩ := Kd.R_slice HO_4.out
                  subst eo21
                  have hcz22_0 : wr.cell? ⟨gb101, 0, none⟩ = some (.int .i64 x102000_1) := (blk_cell BK101.out 0).trans rfl
                  have hcz22_1 : wr.cell? ⟨gb101, 1, none⟩ = some (.int .i64 x102001_1) := (blk_cell BK101.out 1).trans rfl
                  have hfz22_0 := blk_frozen BK101.out 0
                  have hfz22_1 := blk_frozen BK101.out 1
                  go_wp2
                  refine bodyPost_ret (results_tc rfl _ _ gb101 31 #[.int .i64 1, .int .i64 (wrap64 ((x4_1.length : Int) + 1))] (0, 0) _ rfl (by (with_reducible repeat (first | refine blk_drewN ?_ _ | refine blk_drew ?_ | refine blk_alloc ?_ _)); refine blk_put (cs := #[.int .i64 1, .int .i64 x102001_1]) ?_ 1 _ rfl; (with_reducible repeat (first | refine blk_drewN ?_ _ | refine blk_drew ?_ | refine blk_alloc ?_ _)); refine blk_put (cs := #[.int .i64 x102000_1, .int .i64 x102001_1]) ?_ 0 _ rfl; (with_reducible repeat (first | refine blk_drewN ?_ _ | refine blk_drew ?_ | refine blk_alloc ?_ _)); exact BK101.out) Tryd.underlying31 rfl (by kernel_rfl)) rfl ?_
                  exact ⟨_, by first | rfl | (simp [errW_none, errW_some] <;> rfl) | (simp [*, errW_none, errW_some] <;> rfl), by first | exact Kd.R_nil _ _ _ _ _ | exact Kd.N_nil _ _ _ _ _ | exact Kd.V_nil _ _ _ _ _ | exact Kd.Q_nil _ _ _ _ _ | exact Kd.S_nil _ _ _ _ _, by repeat (first | (with_reducible first | exact HB.out | apply below_alloc | apply pw_below_drewN | apply below_drew1 | refine below_set ?_ GE101.out) | exact HB.out)⟩
                · rw [if_neg c20] at H
                  have c20b0 : decide (126 < (bt a0 x6_1)) = false := decide_eq_false c20
                  clear c20
                  have H' := Aside0.mk H
                  clear H
                  have p8 : 0 ≤ (x6_1 : Int) := of_decide_eq_true (by first | (with_reducible assumption) | assumption)
                  have q8 : x6_1 < (a0.size : Int) := of_decide_eq_true (by first | (with_reducible assumption) | assumption)
                  have hx8 := bt_at a0 x6_1
                  replace p8 := eq_true p8
                  replace q8 := eq_true q8
                  have p15 : 0 ≤ (x6_1 : Int) := of_decide_eq_true (by first | (with_reducible assumption) | assumption)
                  have q15 : x6_1 < (a0.size : Int) := of_decide_eq_true (by first | (with_reducible assumption) | assumption)
                  have hx15 := bt_at a0 x6_1
                  replace p15 := eq_true p15
                  replace q15 := eq_true q15
                  have p19 : 0 ≤ (x6_1 : Int) := of_decide_eq_true (by first | (with_reducible assumption) | assumption)
                  have q19 : x6_1 < (a0.size : Int) := of_decide_eq_true (by first | (with_reducible assumption) | assumption)
                  have hx19 := bt_at a0 x6_1
                  replace p19 := eq_true p19
                  replace q19 := eq_true q19
                  go_wp2
                  go_roundg k1
                  case measure => have := HK1.out; omega
                  case rel => exact ⟨(x4_1), (x5_1), (wrap64 (x6_1 + 1)), (x102000_1), (x102001_1), (by first | rfl | (simp; done) | (simp [*]; done)), (by first | rfl | (simp; done) | (simp [*]; done)), H', ⟨by have := HK1.out; omega⟩, ⟨by (with_reducible repeat (first | apply Kd.R_alloc | apply Kd.R_drewN | apply Kd.R_drew)); exact HO_4.out⟩, ⟨by (with_reducible repeat (first | refine blk_drewN ?_ _ | refine blk_drew ?_ | refine blk_alloc ?_ _)); exact BK101.out⟩, ⟨by repeat (first | (with_reducible first | exact HB.out | apply below_alloc | apply pw_below_drewN | apply below_drew1 | refine below_set ?_ GE101.out) | exact HB.out)⟩⟩
          · rw [if_neg c7] at H
            exact absurd H (by simp)
        · rw [if_neg c6] at H
          have c6b0 : decide (x6_1 < (a0.size : Int)) = false := decide_eq_false c6
          clear c6
          by_cases c23 : x5_1 < (a0.size : Int)
          · rw [if_pos c23] at H
            have c23b0 : decide (x5_1 < (a0.size : Int)) = true := decide_eq_true c23
            clear c23
            simp only [Option.some.injEq, Prod.mk.injEq] at H
            obtain ⟨rfl, rfl, rfl⟩ := H
            obtain ⟨Ao24, co24, eo24⟩ := Kd.R_slice HO_4.out
            subst eo24
            have hcz25_0 : wr.cell? ⟨gb101, 0, none⟩ = some (.int .i64 x102000_1) := (blk_cell BK101.out 0).trans rfl
            have hcz25_1 : wr.cell? ⟨gb101, 1, none⟩ = some (.int .i64 x102001_1) := (blk_cell BK101.out 1).trans rfl
            have hfz25_0 := blk_frozen BK101.out 0
            have hfz25_1 := blk_frozen BK101.out 1
            go_wp2
            refine bodyPost_ret (results_tc rfl _ _ gb101 31 #[.int .i64 1, .int .i64 (wrap64 ((x4_1.length : Int) + 1))] (0, 0) _ rfl (by (with_reducible repeat (first | refine blk_drewN ?_ _ | refine blk_drew ?_ | refine blk_alloc ?_ _)); refine blk_put (cs := #[.int .i64 1, .int .i64 x102001_1]) ?_ 1 _ rfl; (with_reducible repeat (first | refine blk_drewN ?_ _ | refine blk_drew ?_ | refine blk_alloc ?_ _)); refine blk_put (cs := #[.int .i64 x102000_1, .int .i64 x102001_1]) ?_ 0 _ rfl; (with_reducible repeat (first | refine blk_drewN ?_ _ | refine blk_drew ?_ | refine blk_alloc ?_ _)); exact BK101.out) Tryd.underlying31 rfl (by kernel_rfl)) rfl ?_
            exact ⟨_, by first | rfl | (simp [errW_none, errW_some] <;> rfl) | (simp [*, errW_none, errW_some] <;> rfl), by first | exact Kd.R_nil _ _ _ _ _ | exact Kd.N_nil _ _ _ _ _ | exact Kd.V_nil _ _ _ _ _ | exact Kd.Q_nil _ _ _ _ _ | exact Kd.S_nil _ _ _ _ _, by repeat (first | (with_reducible first | exact HB.out | apply below_alloc | apply pw_below_drewN | apply below_drew1 | refine below_set ?_ GE101.out) | exact HB.out)⟩
          · rw [if_neg c23] at H
            have c23b0 : decide (x5_1 < (a0.size : Int)) = false := decide_eq_false c23
            clear c23
            simp only [Option.some.injEq, Prod.mk.injEq] at H
            obtain ⟨rfl, rfl, rfl⟩ := H
            have hcz26_0 : wr.cell? ⟨gb101, 0, none⟩ = some (.int .i64 x102000_1) := (blk_cell BK101.out 0).trans rfl
            have hcz26_1 : wr.cell? ⟨gb101, 1, none⟩ = some (.int .i64 x102001_1) := (blk_cell BK101.out 1).trans rfl
            have hfz26_0 := blk_frozen BK101.out 0
            have hfz26_1 := blk_frozen BK101.out 1
            go_wp2
            refine bodyPost_ret (results_tc rfl _ _ gb101 31 #[.int .i64 0, .int .i64 0] (0, 0) _ rfl (by (with_reducible repeat (first | refine blk_drewN ?_ _ | refine blk_drew ?_ | refine blk_alloc ?_ _)); refine blk_put (cs := #[.int .i64 0, .int .i64 x102001_1]) ?_ 1 _ rfl; (with_reducible repeat (first | refine blk_drewN ?_ _ | refine blk_drew ?_ | refine blk_alloc ?_ _)); refine blk_put (cs := #[.int .i64 x102000_1, .int .i64 x102001_1]) ?_ 0 _ rfl; (with_reducible repeat (first | refine blk_drewN ?_ _ | refine blk_drew ?_ | refine blk_alloc ?_ _)); exact BK101.out) Tryd.underlying31 rfl (by kernel_rfl)) rfl ?_
            exact ⟨_, by first | rfl | (simp [errW_none, errW_some] <;> rfl) | (simp [*, errW_none, errW_some] <;> rfl), by (with_reducible repeat (first | apply Kd.R_alloc | apply Kd.R_drewN | apply Kd.R_drew)); exact Kd.R_mono (Kd.R_far (p := ⟨gb101, 1, none⟩) (Kd.R_far (p := ⟨gb101, 0, none⟩) (Kd.R_types HO_4.out BK101.out (by decide)) (fun _ hk => hk.2) (.int .i64 0)) (fun _ hk => hk.2) (.int .i64 0)) (fun _ hk => trivial), by repeat (first | (with_reducible first | exact HB.out | apply below_alloc | apply pw_below_drewN | apply below_drew1 | refine below_set ?_ GE101.out) | exact HB.out)⟩

/-! ### secateurref04_Text: function 46 -/
def secateurref04_Text.l0 : Nat → List ByteArray → ByteArray → Int → Option (ByteArray)
  | 0, _, _, _ => none
  | k + 1, x0, x3, x4 => if x4 < (x0.length : Int) then (if 0 ≤ x4 then (if (rdOf ByteArray.empty x0 x4).size + 1 ≤ 9223372036854775807 then (if x3.size + ((rdOf ByteArray.empty x0 x4) ++ (⟨#[10]⟩ : ByteArray)).size ≤ 9223372036854775807 then (secateurref04_Text.l0 k x0 (x3 ++ ((rdOf ByteArray.empty x0 x4) ++ (⟨#[10]⟩ : ByteArray))) (wrap64 (x4 + 1))) else (none)) else (none)) else (none)) else (some x3)
def secateurref04_Text.f (k : Nat) (l0 : List ByteArray) : Option (ByteArray) := secateurref04_Text.l0 k l0 (⟨#[]⟩ : ByteArray) 0
theorem secateurref04_Text.mono_l : ∀ k, (∀ y0 y1 y2, LeO (secateurref04_Text.l0 k y0 y1 y2) (secateurref04_Text.l0 (k + 1) y0 y1 y2))
  | 0 => fun _ _ _ r h => by simp [secateurref04_Text.l0] at h
  | k + 1 => by
    have ih0 := secateurref04_Text.mono_l k
    · intro y0 y1 y2
      unfold secateurref04_Text.l0
      repeat' first
      | (with_reducible exact ih0 _ _ _)
      | (with_reducible exact LeO.refl _)
      | (with_reducible exact LeO.none _)
      | (with_reducible refine LeO.ite ?_ ?_)
      | (with_reducible refine LeO.bind ?_ (fun _ => ?_))
      | exact ih0 _ _ _
      | exact LeO.none _
      | refine LeO.ite ?_ ?_
      | refine LeO.bind ?_ (fun _ => ?_)
theorem secateurref04_Text.mono : ∀ a0 k, LeO (secateurref04_Text.f k a0) (secateurref04_Text.f (k + 1) a0) := by
  intro a0 k
  have ih0 := secateurref04_Text.mono_l k
  unfold secateurref04_Text.f
  repeat' first
      | (with_reducible exact ih0 _ _ _)
      | (with_reducible exact LeO.refl _)
      | (with_reducible exact LeO.none _)
      | (with_reducible refine LeO.ite ?_ ?_)
      | (with_reducible refine LeO.bind ?_ (fun _ => ?_))
      | exact ih0 _ _ _
      | exact LeO.none _
      | refine LeO.ite ?_ ?_
      | refine LeO.bind ?_ (fun _ => ?_)
set_option maxHeartbeats 8000000 in
set_option maxRecDepth 100000 in
theorem secateurref04_Text.calls (k : Nat) (A0 : Option Addr) (c0 : Nat) (l0 : List ByteArray) (r : ByteArray) (w : World) (hr0 : Kd.C Kd.string w A0 l0.length l0) (hc0 : l0.length ≤ c0) (h : secateurref04_Text.f k l0 = some r) :
    Calls Tryd.prog 46 #[.slice A0 l0.length c0] w fun e w' => e = .returned (.string r) ∧ Drawn0 w w' := by
  have HR0 := Aside0.mk hr0
  have HC0 := Aside0.mk hc0
  clear hr0 hc0
  have H : (secateurref04_Text.l0 k l0 (⟨#[]⟩ : ByteArray) 0) = some r := h
  clear h
  have H' := Aside0.mk H
  clear H
  go_enter Tryd.func46, Tryd.ntmps46
  go_wp2
  go_loopg [3, 4] k (fun kq v3 v4 w' => ∃ (x3_1 : ByteArray) (x4_1 : Int), v3 = .string x3_1 ∧ v4 = .int .i64 x4_1 ∧ Aside0 (secateurref04_Text.l0 kq l0 x3_1 x4_1 = some r) ∧ Aside0 (kq ≤ k) ∧ Drawn0 w w')
  case atStart => exact ⟨((⟨#[]⟩ : ByteArray)), (0), (by first | rfl | (simp; done) | (simp [*]; done)), (by first | rfl | (simp; done) | (simp [*]; done)), H', ⟨Nat.le_refl _⟩, by repeat (first | exact Drawn0.refl _ | apply Drawn0.step)⟩
  case round =>
    clear H'
    obtain ⟨x3_1, x4_1, rfl, rfl, HA, HK1, ⟨m1, rfl⟩⟩ := hrel
    cases gk with
    | zero => exact absurd HA.out (by simp [secateurref04_Text.l0])
    | succ k1 =>
      have H := HA.out
      clear HA
      simp only [secateurref04_Text.l0] at H
      by_cases c2 : x4_1 < (l0.length : Int)
      · rw [if_pos c2] at H
        have c2b0 : decide (x4_1 < (l0.length : Int)) = true := decide_eq_true c2
        clear c2
        by_cases c3 : 0 ≤ x4_1
        · rw [if_pos c3] at H
          have c3b0 : decide (0 ≤ x4_1) = true := decide_eq_true c3
          clear c3
          by_cases c4 : (rdOf ByteArray.empty l0 x4_1).size + 1 ≤ 9223372036854775807
          · rw [if_pos c4] at H
            have c4b0 := eq_true c4
            have c4b1 : decide ((rdOf ByteArray.empty l0 x4_1).size + 1 ≤ 9223372036854775807) = true := decide_eq_true c4
            try have c4b2 : (9223372036854775807 < (rdOf ByteArray.empty l0 x4_1).size + 1) = False := eq_false (Nat.not_lt.2 c4)
            by_cases c5 : x3_1.size + ((rdOf ByteArray.empty l0 x4_1) ++ (⟨#[10]⟩ : ByteArray)).size ≤ 9223372036854775807
            · rw [if_pos c5] at H
              have c5b0 := eq_true c5
              have c5b1 : decide (x3_1.size + ((rdOf ByteArray.empty l0 x4_1) ++ (⟨#[10]⟩ : ByteArray)).size ≤ 9223372036854775807) = true := decide_eq_true c5
              try have c5b2 : (9223372036854775807 < x3_1.size + ((rdOf ByteArray.empty l0 x4_1) ++ (⟨#[10]⟩ : ByteArray)).size) = False := eq_false (Nat.not_lt.2 c5)
              have H' := Aside0.mk H
              clear H
              have p105 : 0 ≤ (x4_1 : Int) := of_decide_eq_true (by first | (with_reducible assumption) | assumption)
              have q105 : x4_1 < (l0.length : Int) := of_decide_eq_true (by first | (with_reducible assumption) | assumption)
              obtain ⟨ad105, e105, hx105_0⟩ := Kd.at_string HR0.out x4_1 p105 q105
              cases e105
              replace p105 := eq_true p105
              replace q105 := eq_true q105
              go_wp2
              go_roundg k1
              case measure => have := HK1.out; omega
              case rel => exact ⟨(x3_1 ++ ((rdOf ByteArray.empty l0 x4_1) ++ (⟨#[10]⟩ : ByteArray))), (wrap64 (x4_1 + 1)), (by first | rfl | (simp; done) | (simp [*]; done)), (by first | rfl | (simp; done) | (simp [*]; done)), H', ⟨by have := HK1.out; omega⟩, by repeat (first | exact Drawn0.refl _ | apply Drawn0.step)⟩
            · rw [if_neg c5] at H
              exact absurd H (by simp)
          · rw [if_neg c4] at H
            exact absurd H (by simp)
        · rw [if_neg c3] at H
          exact absurd H (by simp)
      · rw [if_neg c2] at H
        have c2b0 : decide (x4_1 < (l0.length : Int)) = false := decide_eq_false c2
        clear c2
        obtain rfl := Option.some.inj H
        go_wp2
        go_ret
        exact ⟨by first | rfl | (simp; done) | (simp [*]; done), by repeat (first | exact Drawn0.refl _ | apply Drawn0.step)⟩

/-! ### secateurref04_Fields: function 44 -/
def secateurref04_Fields.l0 : Nat → ByteArray → List ByteArray → Int → Int → Option (List ByteArray)
  | 0, _, _, _, _ => none
  | k + 1, x0, x3, x4, x5 => if x5 < (x0.size : Int) then (if 0 ≤ x5 then (if (bt x0 x5) = 32 then (if 0 ≤ x4 then (if x4 ≤ x5 then (if x5 ≤ (x0.size : Int) then (if x3.length < 8796093022208 then (secateurref04_Fields.l0 k x0 (x3 ++ [x0.extract (x4 : Int).toNat (x5 : Int).toNat]) (wrap64 (x5 + 1)) (wrap64 (x5 + 1))) else (none)) else (none)) else (none)) else (none)) else (secateurref04_Fields.l0 k x0 x3 x4 (wrap64 (x5 + 1)))) else (none)) else (if 0 ≤ x4 then (if x4 ≤ (x0.size : Int) then (if x3.length < 8796093022208 then (some (x3 ++ [x0.extract (x4 : Int).toNat x0.size])) else (none)) else (none)) else (none))
def secateurref04_Fields.f (k : Nat) (a0 : ByteArray) : Option (List ByteArray) := secateurref04_Fields.l0 k a0 ([] : List ByteArray) 0 0
theorem secateurref04_Fields.mono_l : ∀ k, (∀ y0 y1 y2 y3, LeO (secateurref04_Fields.l0 k y0 y1 y2 y3) (secateurref04_Fields.l0 (k + 1) y0 y1 y2 y3))
  | 0 => fun _ _ _ _ r h => by simp [secateurref04_Fields.l0] at h
  | k + 1 => by
    have ih0 := secateurref04_Fields.mono_l k
    · intro y0 y1 y2 y3
      unfold secateurref04_Fields.l0
      repeat' first
      | (with_reducible exact ih0 _ _ _ _)
      | (with_reducible exact LeO.refl _)
      | (with_reducible exact LeO.none _)
      | (with_reducible refine LeO.ite ?_ ?_)
      | (with_reducible refine LeO.bind ?_ (fun _ => ?_))
      | exact ih0 _ _ _ _
      | exact LeO.none _
      | refine LeO.ite ?_ ?_
      | refine LeO.bind ?_ (fun _ => ?_)
theorem secateurref04_Fields.mono : ∀ a0 k, LeO (secateurref04_Fields.f k a0) (secateurref04_Fields.f (k + 1) a0) := by
  intro a0 k
  have ih0 := secateurref04_Fields.mono_l k
  unfold secateurref04_Fields.f
  repeat' first
      | (with_reducible exact ih0 _ _ _ _)
      | (with_reducible exact LeO.refl _)
      | (with_reducible exact LeO.none _)
      | (with_reducible refine LeO.ite ?_ ?_)
      | (with_reducible refine LeO.bind ?_ (fun _ => ?_))
      | exact ih0 _ _ _ _
      | exact LeO.none _
      | refine LeO.ite ?_ ?_
      | refine LeO.bind ?_ (fun _ => ?_)
set_option maxHeartbeats 8000000 in
set_option maxRecDepth 100000 in
theorem secateurref04_Fields.calls (k : Nat) (a0 : ByteArray) (r : List ByteArray) (w : World) (h : secateurref04_Fields.f k a0 = some r) :
    Calls Tryd.prog 44 #[.string a0] w fun e w' => ∃ v0_ : Value, e = .returned (v0_) ∧ Kd.R Kd.string 9 w' w.heap.size (fun _ => True) v0_ r ∧ Below w.heap.size w w' := by
  have HB := Aside0.mk (Below.refl w.heap.size w)
  have H : (secateurref04_Fields.l0 k a0 ([] : List ByteArray) 0 0) = some r := h
  clear h
  have H' := Aside0.mk H
  clear H
  go_enter Tryd.func44, Tryd.ntmps44
  go_wp2
  go_loopg [3, 4, 5] k (fun kq v3 v4 v5 w' => ∃ (x3_1 : List ByteArray) (x4_1 : Int) (x5_1 : Int), v4 = .int .i64 x4_1 ∧ v5 = .int .i64 x5_1 ∧ Aside0 (secateurref04_Fields.l0 kq a0 x3_1 x4_1 x5_1 = some r) ∧ Aside0 (kq ≤ k) ∧ Aside0 (Kd.R Kd.string 9 w' w.heap.size (fun _ => True) v3 x3_1) ∧ Aside0 (Below w.heap.size w w'))
  case atStart => exact ⟨(([] : List ByteArray)), (0), (0), (by first | rfl | (simp; done) | (simp [*]; done)), (by first | rfl | (simp; done) | (simp [*]; done)), H', ⟨Nat.le_refl _⟩, ⟨by first | exact Kd.R_nil _ _ _ _ _ | exact Kd.N_nil _ _ _ _ _ | exact Kd.V_nil _ _ _ _ _ | exact Kd.Q_nil _ _ _ _ _ | exact Kd.S_nil _ _ _ _ _⟩, ⟨by repeat (first | (with_reducible first | exact HB.out | apply below_alloc | apply pw_below_drewN | apply below_drew1) | exact HB.out)⟩⟩
  case round =>
    clear H'
    obtain ⟨x3_1, x4_1, x5_1, rfl, rfl, HA, HK1, HO_3, HB⟩ := hrel
    cases gk with
    | zero => exact absurd HA.out (by simp [secateurref04_Fields.l0])
    | succ k1 =>
      have H := HA.out
      clear HA
      simp only [secateurref04_Fields.l0] at H
      by_cases c2 : x5_1 < (a0.size : Int)
      · rw [if_pos c2] at H
        have c2b0 : decide (x5_1 < (a0.size : Int)) = true := decide_eq_true c2
        clear c2
        by_cases c3 : 0 ≤ x5_1
        · rw [if_pos c3] at H
          have c3b0 : decide (0 ≤ x5_1) = true := decide_eq_true c3
          clear c3
          by_cases c5 : (bt a0 x5_1) = 32
          · rw [if_pos c5] at H
            have c5b0 : ((bt a0 x5_1) == 32) = true := beq_iff_eq.mpr c5
            have c5b1 : ((bt a0 x5_1) != 32) = false := bne_eq_false_iff_eq.mpr c5
            clear c5
            by_cases c6 : 0 ≤ x4_1
            · rw [if_pos c6] at H
              have c6b0 := eq_true c6
              have c6b1 : decide (0 ≤ x4_1) = true := decide_eq_true c6
              clear c6
              by_cases c7 : x4_1 ≤ x5_1
              · rw [if_pos c7] at H
                have c7b0 := eq_true c7
                have c7b1 : decide (x4_1 ≤ x5_1) = true := decide_eq_true c7
                clear c7
                by_cases c8 : x5_1 ≤ (a0.size : Int)
                · rw [if_pos c8] at H
                  have c8b0 := eq_true c8
                  have c8b1 : decide (x5_1 ≤ (a0.size : Int)) = true := decide_eq_true c8
                  clear c8
                  by_cases c9 : x3_1.length < 8796093022208
                  · rw [if_pos c9] at H
                    have LMc9 := Aside0.mk c9
                    clear c9
                    obtain ⟨y106, hy106⟩ : ∃ y_ : List ByteArray, y_ = (x3_1 ++ [a0.extract (x4_1 : Int).toNat (x5_1 : Int).toNat]) := ⟨_, rfl⟩
                    replace H : (secateurref04_Fields.l0 k1 a0 y106 (wrap64 (x5_1 + 1)) (wrap64 (x5_1 + 1))) = some r := by first | (rw [hy106]; with_reducible exact H) | (have H2_ := (Option.bind_some _ _).symm.trans H; rw [hy106]; with_reducible exact H2_) | (have H2_ := (Option.bind_some _ _).symm.trans H; with_reducible exact H2_) | with_reducible exact H | (rw [hy106]; exact H) | exact H
                    have Ny106 := Aside0.mk hy106
                    clear hy106
                    have H' := Aside0.mk H
                    clear H
                    have p4 : 0 ≤ (x5_1 : Int) := of_decide_eq_true (by first | (with_reducible assumption) | assumption)
                    have q4 : x5_1 < (a0.size : Int) := of_decide_eq_true (by first | (with_reducible assumption) | assumption)
                    have hx4 := bt_at a0 x5_1
                    replace p4 := eq_true p4
                    replace q4 := eq_true q4
                    go_wp2_with (first | ((with_reducible refine gate_builtin (b := .append) (xs := #[.tmp 16, .tmp 21]) rfl ?_); at_builtin; refine Kd.R_append Kd.string (w0 := w) w.heap.size rfl (.tmp 16) (.tmp 21) 57 9 (.string ⟨#[]⟩) 16 rfl Tryd.underlying57 info9 rfl (by decide) (by omega) u3 x3_1 (a0.extract (x4_1 : Int).toNat (x5_1 : Int).toNat) [.string (a0.extract (x4_1 : Int).toNat (x5_1 : Int).toNat)] (fun _ => True) (fun _ => False) rfl rfl ?aP (fun _ hk => hk.elim) ?aF ?aO ?aB ?aS ?aL ?_; (case aP => exact rfl); (case aB => exact (by repeat (first | (with_reducible first | exact HB.out | apply below_alloc | apply pw_below_drewN | apply below_drew1) | exact HB.out))); (case aF => exact (fun _ _ => trivial)); (case aO => exact (by (with_reducible repeat (first | apply Kd.R_alloc | apply Kd.R_drewN | apply Kd.R_drew)); exact HO_3.out)); (case aS => exact (below_size (by repeat (first | (with_reducible first | exact HB.out | apply below_alloc | apply pw_below_drewN | apply below_drew1) | exact HB.out)))); (case aL => have := LMc9.out; omega); intro v107 w10 ho hb hg hat; rw [← Ny106.out] at ho; have n0_ := Aside0.mk (hb); have n1_ := Aside0.mk (ho); clear HB; clear HO_3; have HB := n0_; have HO108 := n1_; clear n0_ n1_; clear ho hb hg hat))
                    go_roundg k1
                    case measure => have := HK1.out; omega
                    case rel => exact ⟨(y106), (wrap64 (x5_1 + 1)), (wrap64 (x5_1 + 1)), (by first | rfl | (simp; done) | (simp [*]; done)), (by first | rfl | (simp; done) | (simp [*]; done)), H', ⟨by have := HK1.out; omega⟩, ⟨by (with_reducible repeat (first | apply Kd.R_alloc | apply Kd.R_drewN | apply Kd.R_drew)); exact HO108.out⟩, ⟨by repeat (first | (with_reducible first | exact HB.out | apply below_alloc | apply pw_below_drewN | apply below_drew1) | exact HB.out)⟩⟩
                  · rw [if_neg c9] at H
                    exact absurd H (by simp)
                · rw [if_neg c8] at H
                  exact absurd H (by simp)
              · rw [if_neg c7] at H
                exact absurd H (by simp)
            · rw [if_neg c6] at H
              exact absurd H (by simp)
          · rw [if_neg c5] at H
            have c5b0 : ((bt a0 x5_1) == 32) = false := beq_eq_false_iff_ne.mpr c5
            have c5b1 : ((bt a0 x5_1) != 32) = true := bne_iff_ne.mpr c5
            have H' := Aside0.mk H
            clear H
            have p4 : 0 ≤ (x5_1 : Int) := of_decide_eq_true (by first | (with_reducible assumption) | assumption)
            have q4 : x5_1 < (a0.size : Int) := of_decide_eq_true (by first | (with_reducible assumption) | assumption)
            have hx4 := bt_at a0 x5_1
            replace p4 := eq_true p4
            replace q4 := eq_true q4
            go_wp2
            go_roundg k1
            case measure => have := HK1.out; omega
            case rel => exact ⟨(x3_1), (x4_1), (wrap64 (x5_1 + 1)), (by first | rfl | (simp; done) | (simp [*]; done)), (by first | rfl | (simp; done) | (simp [*]; done)), H', ⟨by have := HK1.out; omega⟩, ⟨by (with_reducible repeat (first | apply Kd.R_alloc | apply Kd.R_drewN | apply Kd.R_drew)); exact HO_3.out⟩, ⟨by repeat (first | (with_reducible first | exact HB.out | apply below_alloc | apply pw_below_drewN | apply below_drew1) | exact HB.out)⟩⟩
        · rw [if_neg c3] at H
          exact absurd H (by simp)
      · rw [if_neg c2] at H
        have c2b0 : decide (x5_1 < (a0.size : Int)) = false := decide_eq_false c2
        clear c2
        by_cases c11 : 0 ≤ x4_1
        · rw [if_pos c11] at H
          have c11b0 := eq_true c11
          have c11b1 : decide (0 ≤ x4_1) = true := decide_eq_true c11
          clear c11
          by_cases c12 : x4_1 ≤ (a0.size : Int)
          · rw [if_pos c12] at H
            have c12b0 := eq_true c12
            have c12b1 : decide (x4_1 ≤ (a0.size : Int)) = true := decide_eq_true c12
            clear c12
            by_cases c13 : x3_1.length < 8796093022208
            · rw [if_pos c13] at H
              have LMc13 := Aside0.mk c13
              clear c13
              obtain ⟨y109, hy109⟩ : ∃ y_ : List ByteArray, y_ = (x3_1 ++ [a0.extract (x4_1 : Int).toNat a0.size]) := ⟨_, rfl⟩
              replace H : (some y109) = some r := by first | (rw [hy109]; with_reducible exact H) | (have H2_ := (Option.bind_some _ _).symm.trans H; rw [hy109]; with_reducible exact H2_) | (have H2_ := (Option.bind_some _ _).symm.trans H; with_reducible exact H2_) | with_reducible exact H | (rw [hy109]; exact H) | exact H
              have Ny109 := Aside0.mk hy109
              clear hy109
              obtain rfl := Option.some.inj H
              go_wp2_with (first | ((with_reducible refine gate_builtin (b := .append) (xs := #[.tmp 25, .tmp 29]) rfl ?_); at_builtin; refine Kd.R_append Kd.string (w0 := w) w.heap.size rfl (.tmp 25) (.tmp 29) 57 9 (.string ⟨#[]⟩) 16 rfl Tryd.underlying57 info9 rfl (by decide) (by omega) u3 x3_1 (a0.extract (x4_1 : Int).toNat a0.size) [.string (a0.extract (x4_1 : Int).toNat a0.size)] (fun _ => True) (fun _ => False) rfl rfl ?aP (fun _ hk => hk.elim) ?aF ?aO ?aB ?aS ?aL ?_; (case aP => exact rfl); (case aB => exact (by repeat (first | (with_reducible first | exact HB.out | apply below_alloc | apply pw_below_drewN | apply below_drew1) | exact HB.out))); (case aF => exact (fun _ _ => trivial)); (case aO => exact (by (with_reducible repeat (first | apply Kd.R_alloc | apply Kd.R_drewN | apply Kd.R_drew)); exact HO_3.out)); (case aS => exact (below_size (by repeat (first | (with_reducible first | exact HB.out | apply below_alloc | apply pw_below_drewN | apply below_drew1) | exact HB.out)))); (case aL => have := LMc13.out; omega); intro v110 w14 ho hb hg hat; rw [← Ny109.out] at ho; have n0_ := Aside0.mk (hb); have n1_ := Aside0.mk (ho); clear HB; clear HO_3; have HB := n0_; have HO111 := n1_; clear n0_ n1_; clear ho hb hg hat))
              go_ret
              exact ⟨_, by first | rfl | (simp [errW_none, errW_some] <;> rfl) | (simp [*, errW_none, errW_some] <;> rfl), by (with_reducible repeat (first | apply Kd.R_alloc | apply Kd.R_drewN | apply Kd.R_drew)); exact HO111.out, by repeat (first | (with_reducible first | exact HB.out | apply below_alloc | apply pw_below_drewN | apply below_drew1) | exact HB.out)⟩
            · rw [if_neg c13] at H
              exact absurd H (by simp)
          · rw [if_neg c12] at H
            exact absurd H (by simp)
        · rw [if_neg c11] at H
          exact absurd H (by simp)

/-! ### secateurref04_Line: function 47 -/
def secateurref04_Line.l0 : Nat → List ByteArray → ByteArray → Int → Option (ByteArray)
  | 0, _, _, _ => none
  | k + 1, x0, x3, x4 => if x4 < (x0.length : Int) then (if x4 > 0 then (if x3.size + 1 ≤ 9223372036854775807 then (if 0 ≤ x4 then (if (x3 ++ (⟨#[32]⟩ : ByteArray)).size + (rdOf ByteArray.empty x0 x4).size ≤ 9223372036854775807 then (secateurref04_Line.l0 k x0 ((x3 ++ (⟨#[32]⟩ : ByteArray)) ++ (rdOf ByteArray.empty x0 x4)) (wrap64 (x4 + 1))) else (none)) else (none)) else (none)) else (if 0 ≤ x4 then (if x3.size + (rdOf ByteArray.empty x0 x4).size ≤ 9223372036854775807 then (secateurref04_Line.l0 k x0 (x3 ++ (rdOf ByteArray.empty x0 x4)) (wrap64 (x4 + 1))) else (none)) else (none))) else (some x3)
def secateurref04_Line.f (k : Nat) (l0 : List ByteArray) : Option (ByteArray) := secateurref04_Line.l0 k l0 (⟨#[]⟩ : ByteArray) 0
theorem secateurref04_Line.mono_l : ∀ k, (∀ y0 y1 y2, LeO (secateurref04_Line.l0 k y0 y1 y2) (secateurref04_Line.l0 (k + 1) y0 y1 y2))
  | 0 => fun _ _ _ r h => by simp [secateurref04_Line.l0] at h
  | k + 1 => by
    have ih0 := secateurref04_Line.mono_l k
    · intro y0 y1 y2
      unfold secateurref04_Line.l0
      repeat' first
      | (with_reducible exact ih0 _ _ _)
      | (with_reducible exact LeO.refl _)
      | (with_reducible exact LeO.none _)
      | (with_reducible refine LeO.ite ?_ ?_)
      | (with_reducible refine LeO.bind ?_ (fun _ => ?_))
      | exact ih0 _ _ _
      | exact LeO.none _
      | refine LeO.ite ?_ ?_
      | refine LeO.bind ?_ (fun _ => ?_)
theorem secateurref04_Line.mono : ∀ a0 k, LeO (secateurref04_Line.f k a0) (secateurref04_Line.f (k + 1) a0) := by
  intro a0 k
  have ih0 := secateurref04_Line.mono_l k
  unfold secateurref04_Line.f
  repeat' first
      | (with_reducible exact ih0 _ _ _)
      | (with_reducible exact LeO.refl _)
      | (with_reducible exact LeO.none _)
      | (with_reducible refine LeO.ite ?_ ?_)
      | (with_reducible refine LeO.bind ?_ (fun _ => ?_))
      | exact ih0 _ _ _
      | exact LeO.none _
      | refine LeO.ite ?_ ?_
      | refine LeO.bind ?_ (fun _ => ?_)
set_option maxHeartbeats 8000000 in
set_option maxRecDepth 100000 in
theorem secateurref04_Line.calls (k : Nat) (A0 : Option Addr) (c0 : Nat) (l0 : List ByteArray) (r : ByteArray) (w : World) (hr0 : Kd.C Kd.string w A0 l0.length l0) (hc0 : l0.length ≤ c0) (h : secateurref04_Line.f k l0 = some r) :
    Calls Tryd.prog 47 #[.slice A0 l0.length c0] w fun e w' => e = .returned (.string r) ∧ Drawn0 w w' := by
  have HR0 := Aside0.mk hr0
  have HC0 := Aside0.mk hc0
  clear hr0 hc0
  have H : (secateurref04_Line.l0 k l0 (⟨#[]⟩ : ByteArray) 0) = some r := h
  clear h
  have H' := Aside0.mk H
  clear H
  go_enter Tryd.func47, Tryd.ntmps47
  go_wp2
  go_loopg [3, 4] k (fun kq v3 v4 w' => ∃ (x3_1 : ByteArray) (x4_1 : Int), v3 = .string x3_1 ∧ v4 = .int .i64 x4_1 ∧ Aside0 (secateurref04_Line.l0 kq l0 x3_1 x4_1 = some r) ∧ Aside0 (kq ≤ k) ∧ Drawn0 w w')
  case atStart => exact ⟨((⟨#[]⟩ : ByteArray)), (0), (by first | rfl | (simp; done) | (simp [*]; done)), (by first | rfl | (simp; done) | (simp [*]; done)), H', ⟨Nat.le_refl _⟩, by repeat (first | exact Drawn0.refl _ | apply Drawn0.step)⟩
  case round =>
    clear H'
    obtain ⟨x3_1, x4_1, rfl, rfl, HA, HK1, ⟨m1, rfl⟩⟩ := hrel
    cases gk with
    | zero => exact absurd HA.out (by simp [secateurref04_Line.l0])
    | succ k1 =>
      have H := HA.out
      clear HA
      simp only [secateurref04_Line.l0] at H
      by_cases c2 : x4_1 < (l0.length : Int)
      · rw [if_pos c2] at H
        have c2b0 : decide (x4_1 < (l0.length : Int)) = true := decide_eq_true c2
        clear c2
        by_cases c3 : x4_1 > 0
        · rw [if_pos c3] at H
          have c3b0 : decide (0 < x4_1) = true := decide_eq_true c3
          clear c3
          by_cases c4 : x3_1.size + 1 ≤ 9223372036854775807
          · rw [if_pos c4] at H
            have c4b0 := eq_true c4
            have c4b1 : decide (x3_1.size + 1 ≤ 9223372036854775807) = true := decide_eq_true c4
            try have c4b2 : (9223372036854775807 < x3_1.size + 1) = False := eq_false (Nat.not_lt.2 c4)
            by_cases c5 : 0 ≤ x4_1
            · rw [if_pos c5] at H
              have c5b0 : decide (0 ≤ x4_1) = true := decide_eq_true c5
              clear c5
              by_cases c6 : (x3_1 ++ (⟨#[32]⟩ : ByteArray)).size + (rdOf ByteArray.empty l0 x4_1).size ≤ 9223372036854775807
              · rw [if_pos c6] at H
                have c6b0 := eq_true c6
                have c6b1 : decide ((x3_1 ++ (⟨#[32]⟩ : ByteArray)).size + (rdOf ByteArray.empty l0 x4_1).size ≤ 9223372036854775807) = true := decide_eq_true c6
                try have c6b2 : (9223372036854775807 < (x3_1 ++ (⟨#[32]⟩ : ByteArray)).size + (rdOf ByteArray.empty l0 x4_1).size) = False := eq_false (Nat.not_lt.2 c6)
                have H' := Aside0.mk H
                clear H
                have p112 : 0 ≤ (x4_1 : Int) := of_decide_eq_true (by first | (with_reducible assumption) | assumption)
                have q112 : x4_1 < (l0.length : Int) := of_decide_eq_true (by first | (with_reducible assumption) | assumption)
                obtain ⟨ad112, e112, hx112_0⟩ := Kd.at_string HR0.out x4_1 p112 q112
                cases e112
                replace p112 := eq_true p112
                replace q112 := eq_true q112
                go_wp2
                go_roundg k1
                case measure => have := HK1.out; omega
                case rel => exact ⟨((x3_1 ++ (⟨#[32]⟩ : ByteArray)) ++ (rdOf ByteArray.empty l0 x4_1)), (wrap64 (x4_1 + 1)), (by first | rfl | (simp; done) | (simp [*]; done)), (by first | rfl | (simp; done) | (simp [*]; done)), H', ⟨by have := HK1.out; omega⟩, by repeat (first | exact Drawn0.refl _ | apply Drawn0.step)⟩
              · rw [if_neg c6] at H
                exact absurd H (by simp)
            · rw [if_neg c5] at H
              exact absurd H (by simp)
          · rw [if_neg c4] at H
            exact absurd H (by simp)
        · rw [if_neg c3] at H
          have c3b0 : decide (0 < x4_1) = false := decide_eq_false c3
          clear c3
          by_cases c7 : 0 ≤ x4_1
          · rw [if_pos c7] at H
            have c7b0 : decide (0 ≤ x4_1) = true := decide_eq_true c7
            clear c7
            by_cases c8 : x3_1.size + (rdOf ByteArray.empty l0 x4_1).size ≤ 9223372036854775807
            · rw [if_pos c8] at H
              have c8b0 := eq_true c8
              have c8b1 : decide (x3_1.size + (rdOf ByteArray.empty l0 x4_1).size ≤ 9223372036854775807) = true := decide_eq_true c8
              try have c8b2 : (9223372036854775807 < x3_1.size + (rdOf ByteArray.empty l0 x4_1).size) = False := eq_false (Nat.not_lt.2 c8)
              have H' := Aside0.mk H
              clear H
              have p113 : 0 ≤ (x4_1 : Int) := of_decide_eq_true (by first | (with_reducible assumption) | assumption)
              have q113 : x4_1 < (l0.length : Int) := of_decide_eq_true (by first | (with_reducible assumption) | assumption)
              obtain ⟨ad113, e113, hx113_0⟩ := Kd.at_string HR0.out x4_1 p113 q113
              cases e113
              replace p113 := eq_true p113
              replace q113 := eq_true q113
              go_wp2
              go_roundg k1
              case measure => have := HK1.out; omega
              case rel => exact ⟨(x3_1 ++ (rdOf ByteArray.empty l0 x4_1)), (wrap64 (x4_1 + 1)), (by first | rfl | (simp; done) | (simp [*]; done)), (by first | rfl | (simp; done) | (simp [*]; done)), H', ⟨by have := HK1.out; omega⟩, by repeat (first | exact Drawn0.refl _ | apply Drawn0.step)⟩
            · rw [if_neg c8] at H
              exact absurd H (by simp)
          · rw [if_neg c7] at H
            exact absurd H (by simp)
      · rw [if_neg c2] at H
        have c2b0 : decide (x4_1 < (l0.length : Int)) = false := decide_eq_false c2
        clear c2
        obtain rfl := Option.some.inj H
        go_wp2
        go_ret
        exact ⟨by first | rfl | (simp; done) | (simp [*]; done), by repeat (first | exact Drawn0.refl _ | apply Drawn0.step)⟩

/-! ### secateurref01_SameTexts: function 42 -/
def secateurref01_SameTexts.l0 : Nat → List ByteArray → List ByteArray → Int → Option (Bool)
  | 0, _, _, _ => none
  | k + 1, x0, x1, x5 => if x5 < (x0.length : Int) then (if 0 ≤ x5 then (if x5 < (x1.length : Int) then (if (rdOf ByteArray.empty x0 x5).toList = (rdOf ByteArray.empty x1 x5).toList then (secateurref01_SameTexts.l0 k x0 x1 (wrap64 (x5 + 1))) else (some false)) else (none)) else (none)) else (some true)
def secateurref01_SameTexts.f (k : Nat) (l0 : List ByteArray) (l1 : List ByteArray) : Option (Bool) := if (l0.length : Int) = (l1.length : Int) then (secateurref01_SameTexts.l0 k l0 l1 0) else (some false)
theorem secateurref01_SameTexts.mono_l : ∀ k, (∀ y0 y1 y2, LeO (secateurref01_SameTexts.l0 k y0 y1 y2) (secateurref01_SameTexts.l0 (k + 1) y0 y1 y2))
  | 0 => fun _ _ _ r h => by simp [secateurref01_SameTexts.l0] at h
  | k + 1 => by
    have ih0 := secateurref01_SameTexts.mono_l k
    · intro y0 y1 y2
      unfold secateurref01_SameTexts.l0
      repeat' first
      | (with_reducible exact ih0 _ _ _)
      | (with_reducible exact LeO.refl _)
      | (with_reducible exact LeO.none _)
      | (with_reducible refine LeO.ite ?_ ?_)
      | (with_reducible refine LeO.bind ?_ (fun _ => ?_))
      | exact ih0 _ _ _
      | exact LeO.none _
      | refine LeO.ite ?_ ?_
      | refine LeO.bind ?_ (fun _ => ?_)
theorem secateurref01_SameTexts.mono : ∀ a0 a1 k, LeO (secateurref01_SameTexts.f k a0 a1) (secateurref01_SameTexts.f (k + 1) a0 a1) := by
  intro a0 a1 k
  have ih0 := secateurref01_SameTexts.mono_l k
  unfold secateurref01_SameTexts.f
  repeat' first
      | (with_reducible exact ih0 _ _ _)
      | (with_reducible exact LeO.refl _)
      | (with_reducible exact LeO.none _)
      | (with_reducible refine LeO.ite ?_ ?_)
      | (with_reducible refine LeO.bind ?_ (fun _ => ?_))
      | exact ih0 _ _ _
      | exact LeO.none _
      | refine LeO.ite ?_ ?_
      | refine LeO.bind ?_ (fun _ => ?_)
set_option maxHeartbeats 8000000 in
set_option maxRecDepth 100000 in
theorem secateurref01_SameTexts.calls (k : Nat) (A0 : Option Addr) (c0 : Nat) (l0 : List ByteArray) (A1 : Option Addr) (c1 : Nat) (l1 : List ByteArray) (r : Bool) (w : World) (hr0 : Kd.C Kd.string w A0 l0.length l0) (hc0 : l0.length ≤ c0) (hr1 : Kd.C Kd.string w A1 l1.length l1) (hc1 : l1.length ≤ c1) (h : secateurref01_SameTexts.f k l0 l1 = some r) :
    Calls Tryd.prog 42 #[.slice A0 l0.length c0, .slice A1 l1.length c1] w fun e w' => e = .returned (.bool r) ∧ Drawn0 w w' := by
  have HR0 := Aside0.mk hr0
  have HC0 := Aside0.mk hc0
  clear hr0 hc0
  have HR1 := Aside0.mk hr1
  have HC1 := Aside0.mk hc1
  clear hr1 hc1
  have H : (if (l0.length : Int) = (l1.length : Int) then (secateurref01_SameTexts.l0 k l0 l1 0) else (some false)) = some r := h
  clear h
  by_cases c3 : (l0.length : Int) = (l1.length : Int)
  · rw [if_pos c3] at H
    have c3b0 : ((l0.length : Int) == (l1.length : Int)) = true := beq_iff_eq.mpr c3
    have c3b1 : ((l0.length : Int) != (l1.length : Int)) = false := bne_eq_false_iff_eq.mpr c3
    have c3b2 : (l0.length == l1.length) = true := by first | simpa using c3 | (simp at c3 ⊢; omega)
    clear c3
    have H' := Aside0.mk H
    clear H
    go_enter Tryd.func42, Tryd.ntmps42
    go_wp2
    repeat (go_quiet (fail); try go_wp2)
    go_loopg [5] k (fun kq v5 w' => ∃ (x5_1 : Int), v5 = .int .i64 x5_1 ∧ Aside0 (secateurref01_SameTexts.l0 kq l0 l1 x5_1 = some r) ∧ Aside0 (kq ≤ k) ∧ Drawn0 w w')
    case atStart => exact ⟨(0), (by first | rfl | (simp; done) | (simp [*]; done)), H', ⟨Nat.le_refl _⟩, by repeat (first | exact Drawn0.refl _ | apply Drawn0.step)⟩
    case round =>
      clear H'
      try clear c1
      try clear p2
      try clear c3
      try clear c3b0
      try clear c3b1
      try clear c3b2
      obtain ⟨x5_1, rfl, HA, HK1, ⟨m1, rfl⟩⟩ := hrel
      cases gk with
      | zero => exact absurd HA.out (by simp [secateurref01_SameTexts.l0])
      | succ k1 =>
        have H := HA.out
        clear HA
        simp only [secateurref01_SameTexts.l0] at H
        by_cases c4 : x5_1 < (l0.length : Int)
        · rw [if_pos c4] at H
          have c4b0 : decide (x5_1 < (l0.length : Int)) = true := decide_eq_true c4
          clear c4
          by_cases c5 : 0 ≤ x5_1
          · rw [if_pos c5] at H
            have c5b0 : decide (0 ≤ x5_1) = true := decide_eq_true c5
            clear c5
            by_cases c6 : x5_1 < (l1.length : Int)
            · rw [if_pos c6] at H
              have c6b0 : decide (x5_1 < (l1.length : Int)) = true := decide_eq_true c6
              clear c6
              by_cases c7 : (rdOf ByteArray.empty l0 x5_1).toList = (rdOf ByteArray.empty l1 x5_1).toList
              · rw [if_pos c7] at H
                have c7b0 : ((rdOf ByteArray.empty l0 x5_1).toList == (rdOf ByteArray.empty l1 x5_1).toList) = true := beq_iff_eq.mpr c7
                have c7b1 : ((rdOf ByteArray.empty l0 x5_1).toList != (rdOf ByteArray.empty l1 x5_1).toList) = false := bne_eq_false_iff_eq.mpr c7
                clear c7
                have H' := Aside0.mk H
                clear H
                have p114 : 0 ≤ (x5_1 : Int) := of_decide_eq_true (by first | (with_reducible assumption) | assumption)
                have q114 : x5_1 < (l0.length : Int) := of_decide_eq_true (by first | (with_reducible assumption) | assumption)
                obtain ⟨ad114, e114, hx114_0⟩ := Kd.at_string HR0.out x5_1 p114 q114
                cases e114
                replace p114 := eq_true p114
                replace q114 := eq_true q114
                have p115 : 0 ≤ (x5_1 : Int) := of_decide_eq_true (by first | (with_reducible assumption) | assumption)
                have q115 : x5_1 < (l1.length : Int) := of_decide_eq_true (by first | (with_reducible assumption) | assumption)
                obtain ⟨ad115, e115, hx115_0⟩ := Kd.at_string HR1.out x5_1 p115 q115
                cases e115
                replace p115 := eq_true p115
                replace q115 := eq_true q115
                go_wp2
                repeat (go_quiet (fail); try go_wp2)
                go_roundg k1
                case measure => have := HK1.out; omega
                case rel => exact ⟨(wrap64 (x5_1 + 1)), (by first | rfl | (simp; done) | (simp [*]; done)), H', ⟨by have := HK1.out; omega⟩, by repeat (first | exact Drawn0.refl _ | apply Drawn0.step)⟩
              · rw [if_neg c7] at H
                have c7b0 : ((rdOf ByteArray.empty l0 x5_1).toList == (rdOf ByteArray.empty l1 x5_1).toList) = false := beq_eq_false_iff_ne.mpr c7
                have c7b1 : ((rdOf ByteArray.empty l0 x5_1).toList != (rdOf ByteArray.empty l1 x5_1).toList) = true := bne_iff_ne.mpr c7
                obtain rfl := Option.some.inj H
                have p114 : 0 ≤ (x5_1 : Int) := of_decide_eq_true (by first | (with_reducible assumption) | assumption)
                have q114 : x5_1 < (l0.length : Int) := of_decide_eq_true (by first | (with_reducible assumption) | assumption)
                obtain ⟨ad114, e114, hx114_0⟩ := Kd.at_string HR0.out x5_1 p114 q114
                cases e114
                replace p114 := eq_true p114
                replace q114 := eq_true q114
                have p115 : 0 ≤ (x5_1 : Int) := of_decide_eq_true (by first | (with_reducible assumption) | assumption)
                have q115 : x5_1 < (l1.length : Int) := of_decide_eq_true (by first | (with_reducible assumption) | assumption)
                obtain ⟨ad115, e115, hx115_0⟩ := Kd.at_string HR1.out x5_1 p115 q115
                cases e115
                replace p115 := eq_true p115
                replace q115 := eq_true q115
                go_wp2
                repeat (go_quiet (fail); try go_wp2)
                go_ret
                exact ⟨by first | rfl | (simp; done) | (simp [*]; done), by repeat (first | exact Drawn0.refl _ | apply Drawn0.step)⟩
            · rw [if_neg c6] at H
              exact absurd H (by simp)
          · rw [if_neg c5] at H
            exact absurd H (by simp)
        · rw [if_neg c4] at H
          have c4b0 : decide (x5_1 < (l0.length : Int)) = false := decide_eq_false c4
          clear c4
          obtain rfl := Option.some.inj H
          go_wp2
          repeat (go_quiet (fail); try go_wp2)
          go_ret
          exact ⟨by first | rfl | (simp; done) | (simp [*]; done), by repeat (first | exact Drawn0.refl _ | apply Drawn0.step)⟩
  · rw [if_neg c3] at H
    have c3b0 : ((l0.length : Int) == (l1.length : Int)) = false := beq_eq_false_iff_ne.mpr c3
    have c3b1 : ((l0.length : Int) != (l1.length : Int)) = true := bne_iff_ne.mpr c3
    have c3b2 : (l0.length == l1.length) = false := by first | simpa using c3 | (simp at c3 ⊢; omega)
    obtain rfl := Option.some.inj H
    go_enter Tryd.func42, Tryd.ntmps42
    go_wp2
    repeat (go_quiet (fail); try go_wp2)
    go_ret
    exact ⟨by first | rfl | (simp; done) | (simp [*]; done), by repeat (first | exact Drawn0.refl _ | apply Drawn0.step)⟩

end Go.Proofs.YtmlbfepibfobaaaDoor.Q9
end

section
-- Written by this session's program layer.py (the kit's print, turned), not by hand.
namespace Go.Proofs.YtmlbfepibfobaaaDoor.Q9
open Go.RowKit Go.Proofs.YtmlbfepibfobaaaDoorW.PrintWords Go.Proofs.YtmlbfepibfobaaaDoorW.PrintLast Go.Proofs.YtmlbfepibfobaaaDoorW.PrintMore
attribute [local go_sem] max2_int min2_int max_two min_two max_three min_three max_four min_four   -- for this text's walks alone
set_option linter.unusedVariables false
set_option linter.unusedSimpArgs false

end Go.Proofs.YtmlbfepibfobaaaDoor.Q9
end

section
namespace Go.Proofs.YtmlbfepibfobaaaDoor.Hand
open Go.RowKit Go.Shelf Go.Proofs.YtmlbfepibfobaaaDoorW.PrintWords Go.Proofs.YtmlbfepibfobaaaDoorW.PrintLast Go.Proofs.YtmlbfepibfobaaaDoorW.PrintMore
set_option linter.unusedVariables false
set_option linter.unusedSimpArgs false

def word_Fields.f (s : ByteArray) : Option (List ByteArray) := if s.size < 4294967281 then some ((fieldsL (bl s)).map lb) else none
theorem splitB_fields (s : ByteArray) : (Lib.splitB ⟨#[32]⟩ 0 (Lib.countB s ⟨#[32]⟩) s) = (fieldsL (bl s)).map lb ∧ (fieldsL (bl s)).length = Lib.countB s ⟨#[32]⟩ + 1 := by
  have hc : Lib.countB s ⟨#[32]⟩ = Lib.countFrom [32] ((bl s).length + 1) (bl s) := rfl
  obtain ⟨h1, h2⟩ := split_fields ((bl s).length + 1) (bl s) (by omega)
  rw [hc]
  refine ⟨?_, h2⟩
  have hd := Lib.splitB_data ⟨#[32]⟩ 0 (Lib.countFrom [32] ((bl s).length + 1) (bl s)) s
  have e : (⟨#[32]⟩ : ByteArray).data.toList = [32] := rfl
  rw [e, show s.data.toList = bl s from rfl, h1] at hd
  rw [← hd, List.map_map]
  conv => lhs; rw [← List.map_id (Lib.splitB _ _ _ _)]
  exact List.map_congr_left fun x _ => (lb_bl x).symm
theorem full_row {W : World} {base e g n : Nat} {xs : List Value} (h : W.heap[g]? = some (.cells xs.toArray e (0, 0))) (hn : xs.length = n) (hb : base ≤ g) (hm : n ≤ maxLen) : W.ownsRow base e 1 (.slice (some ⟨g, 0, none⟩) n n) n xs :=
  ⟨by omega, .inr ⟨g, n, xs.toArray, rfl, hb, h, Nat.le_refl _, hm, by simp [hn], by simp [← hn]⟩⟩
theorem fld_len : ∀ (s cur : List UInt8), (fld cur s).length ≤ s.length + 1
  | [], _ => by simp [fld]
  | b :: s, cur => by
    unfold fld
    split
    · have := fld_len s []; simp; omega
    · have := fld_len s (cur ++ [b]); simp; omega
set_option maxHeartbeats 8000000 in
set_option maxRecDepth 100000 in
theorem word_Fields.calls (a0 : ByteArray) (r : List ByteArray) (w : World) (hGMaxL : MaxL w) (h : word_Fields.f a0 = some r) :
    Calls Tryd.prog 43 #[.string a0] w fun e w' => ∃ v0_ : Value, e = .returned (v0_) ∧ Kd.R Kd.string 9 w' w.heap.size (fun _ => True) v0_ r ∧ Below w.heap.size w w' := by
  unfold word_Fields.f at h
  split at h
  · rename_i hs
    obtain rfl := Option.some.inj h
    clear h
    obtain ⟨m, hm⟩ := hGMaxL
    have HS := Aside0.mk (Tryd.strings_Split a0 ⟨#[32]⟩ m w hs hm (by decide))
    obtain ⟨h1, h2⟩ := splitB_fields a0
    have hlen : (fieldsL (bl a0)).length ≤ a0.size + 1 := by have := fld_len (bl a0) []; rw [bl_len] at this; exact this
    rw [h1, ← h2] at HS
    have HF := Aside0.mk (full_row (base := w.heap.size) (e := 9) (n := (fieldsL (bl a0)).length) (xs := ((fieldsL (bl a0)).map lb).map Value.string) (blk_new w (.cells (((fieldsL (bl a0)).map lb).map Value.string).toArray 9)) (by simp) (Nat.le_refl _) (by unfold maxLen; omega))
    clear hm h1 h2 hs hlen
    go_enter Tryd.func43, Tryd.ntmps43
    go_wp2_with fail
    refine HS.out.mono ?_
    rintro e w1 ⟨rfl, rfl⟩
    go_wp2
    go_ret
    refine ⟨_, rfl, Kd.R_of_own ?_ (fun _ _ => trivial), below_alloc (Below.refl _ _) _⟩
    have hf := HF.out
    rw [List.map_map] at hf
    have e1 : encs Value.string (List.map lb (fieldsL (bl a0))) = List.map (Value.string ∘ lb) (fieldsL (bl a0)) := by simp [encs]
    rw [List.length_map, e1]
    exact hf
  · cases h
def word_Line.f (l0 : List ByteArray) : Option ByteArray := if (lineL (l0.map bl)).length ≤ 140737488355328 ∧ l0.length ≤ 140737488355328 then some (lb (lineL (l0.map bl))) else none
set_option maxHeartbeats 8000000 in
set_option maxRecDepth 100000 in
theorem word_Line.calls (A0 : Option Addr) (c0 : Nat) (l0 : List ByteArray) (r : ByteArray) (w : World) (hr0 : Kd.C Kd.string w A0 l0.length l0) (hc0 : l0.length ≤ c0) (h : word_Line.f l0 = some r) :
    Calls Tryd.prog 45 #[.slice A0 l0.length c0] w fun e w' => e = .returned (.string r) ∧ Below w.heap.size w w' := by
  unfold word_Line.f at h
  split at h
  · rename_i hg
    obtain rfl := Option.some.inj h
    clear h
    have HS : Aside0 (Calls Tryd.prog 104 #[.slice A0 l0.length c0, .string ⟨#[32]⟩] w fun e w' => e = .returned (.string (lb (lineL (l0.map bl)))) ∧ Below w.heap.size w w') := ⟨by
      have hj : Lib.join (l0.map (·.data.toList)) (⟨#[32]⟩ : ByteArray).data.toList = lineL (l0.map bl) := join_line _
      cases hl : l0 with
      | nil =>
        have := Tryd.strings_Join_none A0 c0 ⟨#[32]⟩ w
        refine this.mono ?_
        rintro e w' ⟨rfl, rfl⟩
        exact ⟨rfl, Below.refl _ _⟩
      | cons x xs =>
        rw [← hl]
        have hpos : 0 < l0.length := by rw [hl]; simp
        obtain ⟨ad, rfl, h0⟩ := Kd.at_string hr0 0 (by omega) (by omega)
        have hsp : ad = ⟨ad.block, ad.off, none⟩ := by
          have e0 : ad.add (0 : Int).toNat = ad := rfl
          rw [e0] at h0
          cases ad with
          | mk b o sp =>
            cases sp with
            | none => rfl
            | some z => unfold World.cell? at h0; split at h0 <;> simp at h0
        have hb : ad.block < w.heap.size := by
          have e0 : ad.add (0 : Int).toNat = ad := rfl
          rw [e0] at h0
          exact World.block_lt_of_cell? w _ h0
        have := Tryd.strings_Join ad.block ad.off c0 l0 ⟨#[32]⟩ w (fun j x hj => by
          have hlt : j < l0.length := (List.getElem?_eq_some_iff.1 hj).1
          obtain ⟨ad2, e2, h2⟩ := Kd.at_string hr0 (j : Int) (by omega) (by omega)
          cases e2
          rw [Int.toNat_natCast] at h2
          have e3 : rdOf ByteArray.empty l0 (j : Int) = x := by simp [rdOf, hj]
          rw [e3, hsp] at h2
          have e4 : (⟨ad.block, ad.off, none⟩ : Addr).add j = ⟨ad.block, ad.off + j, none⟩ := by cases j <;> rfl
          rw [← e4]
          exact h2) hb hg.2 hc0 (by rw [hj]; exact hg.1)
        rw [hj, ← hsp] at this
        exact this⟩
    clear hr0 hc0 hg
    go_enter Tryd.func45, Tryd.ntmps45
    go_wp2_with fail
    refine HS.out.mono ?_
    rintro e w1 ⟨rfl, hb⟩
    go_wp2
    go_ret
    exact ⟨rfl, hb⟩
  · cases h
end Go.Proofs.YtmlbfepibfobaaaDoor.Hand
end
