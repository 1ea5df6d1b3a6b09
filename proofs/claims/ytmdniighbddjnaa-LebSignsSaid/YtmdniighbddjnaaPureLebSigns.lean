/- A number with a sign goes to one without, and back, as the document's reference says: for every two numbers. -/
import Derived.Test.YtmdniighbddjnaaPLebSignsx1
import Derived.Test.YtmdniighbddjnaaHLebP
namespace Go.Proofs.Ytmdniighbddjnaa.Pure
open Go.RowKit Go.Proofs.Ytmdniighbddjnaa.Hand Go.Proofs.Ytmdniighbddjnaa.PLebSigns Go.Proofs.YtmdniighbddjnaaW.PrintWords Go.Proofs.YtmdniighbddjnaaW.PrintLast
theorem LebSigns_live : secateurlaw01_live.f = some true := by decide +kernel
theorem LebSigns : secateurlaw01_LebSigns.Pure := by
  intro a0 a1 h0 h1
  have g0 := i64_wf h0
  have g1 := u64B_iff.1 (u64B_wf h1)
  have r0 := zig_range a0 g0.1 g0.2
  have r1 := zag_range a1 g1.1 g1.2
  have e1 : leb_Zig.f a0 = some (zigI a0) := by unfold leb_Zig.f; rw [if_pos g0]
  have e2 : secateurref01_Zig.f a0 = some (zigI a0) := e1
  have e3 : leb_Zag.f a1 = some (zagI a1) := by unfold leb_Zag.f; rw [if_pos g1]
  have e4 : secateurref01_Zag.f a1 = some (zagI a1) := e3
  have e5 : leb_Zag.f (zigI a0) = some a0 := by unfold leb_Zag.f; rw [if_pos r0, zag_zig]
  have e6 : leb_Zig.f (zagI a1) = some a1 := by unfold leb_Zig.f; rw [if_pos r1, zig_zag a1 g1.1]
  unfold secateurlaw01_LebSigns.f
  simp [LebSigns_live, e1, e2, e3, e4, e5, e6]
end Go.Proofs.Ytmdniighbddjnaa.Pure
