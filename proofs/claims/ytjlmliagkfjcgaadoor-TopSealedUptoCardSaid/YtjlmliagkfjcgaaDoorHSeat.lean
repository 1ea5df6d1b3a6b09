/- What each row asks of the whole program, told once. -/
import Derived.Test.YtjlmliagkfjcgaaDoorRows
import Derived.ProofKit
import Derived.JoinedCond
import Derived.KernelRfl
namespace Go.Proofs.YtjlmliagkfjcgaaDoor.Hand
theorem seat_mayEnter : Tryd.prog.mayEnter = true := by kernel_rfl
theorem seat_lifts : Tryd.prog.liftsFinal = false := by kernel_rfl
theorem seat_make : Tryd.prog.make = some .cut := by kernel_rfl
end Go.Proofs.YtjlmliagkfjcgaaDoor.Hand
