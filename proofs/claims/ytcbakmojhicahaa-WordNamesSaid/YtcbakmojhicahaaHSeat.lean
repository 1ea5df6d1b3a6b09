/- What each row asks of the whole program, told once. -/
import Derived.Test.YtcbakmojhicahaaRows
import Derived.ProofKit
import Derived.JoinedCond
import Derived.KernelRfl
namespace Go.Proofs.Ytcbakmojhicahaa.Hand
theorem seat_mayEnter : Try.prog.mayEnter = true := by kernel_rfl
theorem seat_lifts : Try.prog.liftsFinal = false := by kernel_rfl
theorem seat_make : Try.prog.make = some .cut := by kernel_rfl
end Go.Proofs.Ytcbakmojhicahaa.Hand
