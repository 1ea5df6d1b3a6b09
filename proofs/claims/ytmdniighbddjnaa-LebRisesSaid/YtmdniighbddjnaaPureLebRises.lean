/- The greater number has not fewer bytes, and each has from 1 to 10: for every two numbers. -/
import Derived.Test.YtmdniighbddjnaaPLebRisesx1
import Derived.Test.YtmdniighbddjnaaHLebP
namespace Go.Proofs.Ytmdniighbddjnaa.Pure
open Go.RowKit Go.Proofs.Ytmdniighbddjnaa.Hand Go.Proofs.Ytmdniighbddjnaa.PLebRises Go.Proofs.YtmdniighbddjnaaW.PrintWords Go.Proofs.YtmdniighbddjnaaW.PrintLast
theorem LebRises_live : secateurlaw01_live.f = some true := by decide +kernel
theorem LebRises : secateurlaw01_LebRises.Pure := by
  intro a0 a1 h0 h1
  have g0 := u64B_iff.1 (u64B_wf h0)
  have g1 := u64B_iff.1 (u64B_wf h1)
  have p0 : 0 < (lebPut a0).length := lebTail_length_pos 10 a0 (by omega)
  have q0 := lebPut_length_le a0
  have m0 : a0 ≤ a1 → (lebPut a0).length ≤ (lebPut a1).length := fun h => lebTail_rises 10 a0 a1 g0.1 h
  have m1 : a1 ≤ a0 → (lebPut a1).length ≤ (lebPut a0).length := fun h => lebTail_rises 10 a1 a0 g1.1 h
  unfold secateurlaw01_LebRises.f
  rw [size_some (u64B_wf h0), size_some (u64B_wf h1), LebRises_live]
  simp only [Option.bind_some, if_true]
  rw [if_pos (by omega), if_pos (by omega)]
  by_cases h : a0 > a1
  · have := m1 (by omega)
    rw [if_pos h, if_neg (by omega), decide_eq_true (by omega)]
  · have := m0 (by omega)
    rw [if_neg h, if_pos (by omega)]
    by_cases h2 : a0 < a1
    · rw [if_pos h2]
    · have := m1 (by omega)
      rw [if_neg h2, decide_eq_true (by omega)]
end Go.Proofs.Ytmdniighbddjnaa.Pure
