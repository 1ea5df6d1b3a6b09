-- Written by this session's program layer.py (the kit's print, turned), not by hand.
import Derived.Test.YtcbakmojhicahaaProg
import Derived.Below
import Derived.Deep.Draws
import Derived.Deep.AppendLies
import Derived.Maps.AppendAt
import Derived.OwnWalk
import Derived.Laws.BytesArg
import Derived.Laws.MakeOwn
import Derived.Laws.OwnMore
import Derived.Deep.OwnRows
import Derived.Tactics
import Derived.Lib.ConvBytes
import Derived.Laws.Slices
import Derived.WalkKit
import Derived.KernelRfl
import Derived.RowKit3
import Derived.Deep.LoopGhost
import Derived.Deep.QuietTactic
import Derived.BigQuiet
import Derived.WideLaws
import Derived.Deep.DeepCutAuto
import Derived.Deep.CutBlock
import Derived.Deep.RegionHeld3
import Derived.Laws.Rows
import Derived.Lib.AppendStr
import Derived.ArgAppend
import Derived.Laws.IdiomCopy
import Derived.OrdersHeld
import Derived.Laws.BitsLemmas
import Derived.RowKit
import Derived.Test.YtcbakmojhicahaaWWords
import Derived.Test.YtcbakmojhicahaaWLast
import Derived.Test.YtcbakmojhicahaaWTab
import Derived.Test.YtcbakmojhicahaaWFour
import Derived.Test.YtcbakmojhicahaaWQPut
import Derived.Test.YtcbakmojhicahaaWApart
import Derived.Test.YtcbakmojhicahaaWArr
import Derived.Test.YtcbakmojhicahaaWZeros
import Derived.Test.YtcbakmojhicahaaWFoot
import Derived.Test.YtcbakmojhicahaaWKept
import Derived.Test.YtcbakmojhicahaaWShare
import Derived.Test.YtcbakmojhicahaaWN
import Derived.Test.YtcbakmojhicahaaWFootNe
import Derived.Test.YtcbakmojhicahaaWAt
import Derived.Test.YtcbakmojhicahaaWEqStruct
import Derived.Test.YtcbakmojhicahaaWRepsOne
import Derived.Test.YtcbakmojhicahaaWInv
import Derived.Test.YtcbakmojhicahaaWInvWords
import Derived.Test.YtcbakmojhicahaaWGuard
import Derived.Test.YtcbakmojhicahaaWNEv
import Derived.Test.YtcbakmojhicahaaWMore
import Derived.Test.YtcbakmojhicahaaHWordB
import Derived.Test.YtcbakmojhicahaaHWordD
namespace Go.Proofs.Ytcbakmojhicahaa.Q5
open Go.RowKit Go.Proofs.YtcbakmojhicahaaW.PrintWords Go.Proofs.YtcbakmojhicahaaW.PrintLast Go.Proofs.YtcbakmojhicahaaW.PrintMore Go.Proofs.Ytcbakmojhicahaa.Hand
attribute [local go_sem] max2_int min2_int max_two min_two max_three min_three max_four min_four   -- for this text's walks alone
set_option linter.unusedVariables false
set_option linter.unusedSimpArgs false



def errW : Option Int → Value
  | none => .nilIface
  | some c => .iface 0 (.int .i64 c)
theorem errW_none : errW none = .nilIface := rfl
theorem errW_some (c : Int) : errW (some c) = .iface 0 (.int .i64 c) := rfl

theorem info5 : (Try.prog.info? 5).map (fun i => (i.zero, i.size, i.bytes)) = some (some (.int .u8 0), 1, 1) := by kernel_rfl
-- the values' own types

end Go.Proofs.Ytcbakmojhicahaa.Q5
