-- Written by this session's program layer.py (the kit's print, turned), not by hand.
import Derived.Test.YtmdniighbddjnaaProg
import Derived.Below
import Derived.Deep.Draws
import Derived.Deep.AppendLies
import Derived.Maps.AppendAt
import Derived.OwnWalk
import Derived.Laws.BytesArg
import Derived.Laws.MakeOwn
import Derived.Laws.OwnMore
import Derived.Deep.OwnRows
import Derived.Tactics
import Derived.Lib.ConvBytes
import Derived.Laws.Slices
import Derived.WalkKit
import Derived.KernelRfl
import Derived.RowKit3
import Derived.Deep.LoopGhost
import Derived.Deep.QuietTactic
import Derived.BigQuiet
import Derived.WideLaws
import Derived.Deep.DeepCutAuto
import Derived.Deep.CutBlock
import Derived.Deep.RegionHeld3
import Derived.Laws.Rows
import Derived.Lib.AppendStr
import Derived.ArgAppend
import Derived.Laws.IdiomCopy
import Derived.OrdersHeld
import Derived.Laws.BitsLemmas
import Derived.RowKit
import Derived.Test.YtmdniighbddjnaaWWords
import Derived.Test.YtmdniighbddjnaaWLast
import Derived.Test.YtmdniighbddjnaaWTab
import Derived.Test.YtmdniighbddjnaaWFour
import Derived.Test.YtmdniighbddjnaaWQPut
import Derived.Test.YtmdniighbddjnaaWApart
import Derived.Test.YtmdniighbddjnaaWArr
import Derived.Test.YtmdniighbddjnaaWZeros
import Derived.Test.YtmdniighbddjnaaWFoot
import Derived.Test.YtmdniighbddjnaaWKept
import Derived.Test.YtmdniighbddjnaaWShare
import Derived.Test.YtmdniighbddjnaaWN
import Derived.Test.YtmdniighbddjnaaWFootNe
import Derived.Test.YtmdniighbddjnaaWAt
import Derived.Test.YtmdniighbddjnaaWEqStruct
import Derived.Test.YtmdniighbddjnaaWRepsOne
import Derived.Test.YtmdniighbddjnaaWInv
import Derived.Test.YtmdniighbddjnaaWInvWords
import Derived.Test.YtmdniighbddjnaaWGuard
import Derived.Test.YtmdniighbddjnaaWNEv
import Derived.Test.YtmdniighbddjnaaWMore
import Derived.Test.YtmdniighbddjnaaHTake
import Derived.Test.YtmdniighbddjnaaHLebB
import Derived.Test.YtmdniighbddjnaaHPut
import Derived.Test.YtmdniighbddjnaaHLeb
namespace Go.Proofs.Ytmdniighbddjnaa.PLebRises
open Go.RowKit Go.Proofs.YtmdniighbddjnaaW.PrintWords Go.Proofs.YtmdniighbddjnaaW.PrintLast Go.Proofs.YtmdniighbddjnaaW.PrintMore Go.Proofs.Ytmdniighbddjnaa.Hand
attribute [local go_sem] max2_int min2_int max_two min_two max_three min_three max_four min_four   -- for this text's walks alone
set_option linter.unusedVariables false
set_option linter.unusedSimpArgs false



def errW : Option Int → Value
  | none => .nilIface
  | some c => .iface 0 (.int .i64 c)
theorem errW_none : errW none = .nilIface := rfl
theorem errW_some (c : Int) : errW (some c) = .iface 0 (.int .i64 c) := rfl

theorem info5 : (Try.prog.info? 5).map (fun i => (i.zero, i.size, i.bytes)) = some (some (.int .u8 0), 1, 1) := by kernel_rfl
-- the values' own types

end Go.Proofs.Ytmdniighbddjnaa.PLebRises
