/- Numbers one behind the other are told apart again, and bytes that are split are joined as they were: where the arguments' bulk is at most the bound of the second form. -/
import Derived.Test.YtmdniighbddjnaaPLebListsx1
import Derived.Test.YtmdniighbddjnaaHLebP
namespace Go.Proofs.Ytmdniighbddjnaa.Pure
open Go.RowKit Go.Proofs.Ytmdniighbddjnaa.Hand Go.Proofs.Ytmdniighbddjnaa.PLebLists Go.Proofs.YtmdniighbddjnaaW.PrintWords Go.Proofs.YtmdniighbddjnaaW.PrintLast
theorem LebLists_live : secateurlaw01_live.f = some true := by decide +kernel
theorem LebLists : secateurlaw01_LebLists.Pure := by
  intro l0 l1 _ hl0 hb0 _ hl1 hb1
  have c0 := u64s_wf hb0
  have c1 := bytes_wf hb1
  have j0 := lebJoin_length_le l0
  have e1 : leb_Join.f l0 = some (lebJoin l0) := by unfold leb_Join.f; rw [if_pos ⟨c0, by omega⟩]
  have e2 : secateurref01_Join.f l0 = some (lebJoin l0) := e1
  have e3 : leb_Split.f (lebJoin l0) = some (l0, 0) := by unfold leb_Split.f; rw [if_pos ⟨lebJoin_bytes l0, by omega⟩, split_join l0 c0]
  have e4 : leb_Split.f l1 = some (lebSplit l1) := by unfold leb_Split.f; rw [if_pos ⟨c1, by omega⟩]
  have e5 : secateurref01_Split.f l1 = some (lebSplit l1) := e4
  unfold secateurlaw01_LebLists.f
  by_cases hz : (lebSplit l1).2 = 0
  · obtain ⟨h1, h2, h3⟩ := join_split l1 c1 hz
    have e6 : leb_Join.f (lebSplit l1).1 = some l1 := by unfold leb_Join.f; rw [if_pos ⟨h1, by omega⟩, h2]
    simp [LebLists_live, e1, e2, e3, e4, e5, e6, hz, secateurref01_SameBytes.f, secateurref01_SameNums.f]
  · simp [LebLists_live, e1, e2, e3, e4, e5, hz, secateurref01_SameBytes.f, secateurref01_SameNums.f]
end Go.Proofs.Ytmdniighbddjnaa.Pure
