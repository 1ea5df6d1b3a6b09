-- Written by this session's program layer.py (the kit's print, turned), not by hand.
import Derived.Test.YtjlmliagkfjcgaaDoorProg
import Derived.Below
import Derived.Deep.Draws
import Derived.Deep.AppendLies
import Derived.Maps.AppendAt
import Derived.OwnWalk
import Derived.Laws.BytesArg
import Derived.Laws.MakeOwn
import Derived.Laws.OwnMore
import Derived.Deep.OwnRows
import Derived.Tactics
import Derived.Lib.ConvBytes
import Derived.Laws.Slices
import Derived.WalkKit
import Derived.KernelRfl
import Derived.RowKit3
import Derived.Deep.LoopGhost
import Derived.Deep.QuietTactic
import Derived.BigQuiet
import Derived.WideLaws
import Derived.Deep.DeepCutAuto
import Derived.Deep.CutBlock
import Derived.Deep.RegionHeld3
import Derived.Laws.Rows
import Derived.Lib.AppendStr
import Derived.ArgAppend
import Derived.Laws.IdiomCopy
import Derived.OrdersHeld
import Derived.Laws.BitsLemmas
import Derived.RowKit
import Derived.Test.YtjlmliagkfjcgaaDoorWWords
import Derived.Test.YtjlmliagkfjcgaaDoorWLast
import Derived.Test.YtjlmliagkfjcgaaDoorWTab
import Derived.Test.YtjlmliagkfjcgaaDoorWFour
import Derived.Test.YtjlmliagkfjcgaaDoorWQPut
import Derived.Test.YtjlmliagkfjcgaaDoorWApart
import Derived.Test.YtjlmliagkfjcgaaDoorWArr
import Derived.Test.YtjlmliagkfjcgaaDoorWZeros
import Derived.Test.YtjlmliagkfjcgaaDoorWFoot
import Derived.Test.YtjlmliagkfjcgaaDoorWKept
import Derived.Test.YtjlmliagkfjcgaaDoorWShare
import Derived.Test.YtjlmliagkfjcgaaDoorWN
import Derived.Test.YtjlmliagkfjcgaaDoorWFootNe
import Derived.Test.YtjlmliagkfjcgaaDoorWAt
import Derived.Test.YtjlmliagkfjcgaaDoorWEqStruct
import Derived.Test.YtjlmliagkfjcgaaDoorWRepsOne
import Derived.Test.YtjlmliagkfjcgaaDoorWInv
import Derived.Test.YtjlmliagkfjcgaaDoorWInvWords
import Derived.Test.YtjlmliagkfjcgaaDoorWGuard
import Derived.Test.YtjlmliagkfjcgaaDoorWNEv
import Derived.Test.YtjlmliagkfjcgaaDoorWMore
import Derived.Test.YtjlmliagkfjcgaaDoorHPut
import Derived.Test.YtjlmliagkfjcgaaDoorHTake
namespace Go.Proofs.YtjlmliagkfjcgaaDoor.Q1
open Go.RowKit Go.Proofs.YtjlmliagkfjcgaaDoorW.PrintWords Go.Proofs.YtjlmliagkfjcgaaDoorW.PrintLast Go.Proofs.YtjlmliagkfjcgaaDoorW.PrintMore Go.Proofs.YtjlmliagkfjcgaaDoor.Hand
attribute [local go_sem] max2_int min2_int max_two min_two max_three min_three max_four min_four   -- for this text's walks alone
set_option linter.unusedVariables false
set_option linter.unusedSimpArgs false



def errW : Option Int → Value
  | none => .nilIface
  | some c => .iface 0 (.int .i64 c)
theorem errW_none : errW none = .nilIface := rfl
theorem errW_some (c : Int) : errW (some c) = .iface 0 (.int .i64 c) := rfl

theorem info5 : (Tryd.prog.info? 5).map (fun i => (i.zero, i.size, i.bytes)) = some (some (.int .u8 0), 1, 1) := by kernel_rfl
theorem info52 : (Tryd.prog.info? 52).map (fun i => (i.zero, i.size, i.bytes)) = some (some (.int .u64 0), 1, 8) := by kernel_rfl
-- the values' own types

end Go.Proofs.YtjlmliagkfjcgaaDoor.Q1
