-- Written by this session's program layer.py (the kit's print, turned), not by hand.
import Derived.Test.YtcbakmojhicahaaPWordNamesx0
import Derived.Test.YtcbakmojhicahaaPWordNamesx1
namespace Go.Proofs.Ytcbakmojhicahaa.PWordNames
open Go.RowKit Go.Proofs.YtcbakmojhicahaaW.PrintWords Go.Proofs.YtcbakmojhicahaaW.PrintLast Go.Proofs.YtcbakmojhicahaaW.PrintMore Go.Proofs.Ytcbakmojhicahaa.Hand
attribute [local go_sem] max2_int min2_int max_two min_two max_three min_three max_four min_four   -- for this text's walks alone
set_option linter.unusedVariables false
set_option linter.unusedSimpArgs false

end Go.Proofs.Ytcbakmojhicahaa.PWordNames
