/- Numbers that are joined, sealed, opened and split are as they were: where their bulk is at most the bound of the second form. -/
import Derived.Test.YtjlmliagkfjcgaaDoorPTopSealedx1
import Derived.Test.YtjlmliagkfjcgaaDoorHSealP
namespace Go.Proofs.YtjlmliagkfjcgaaDoor.Pure
open Go.RowKit Go.Proofs.YtjlmliagkfjcgaaDoor.Hand Go.Proofs.YtjlmliagkfjcgaaDoor.PTopSealed Go.Proofs.YtjlmliagkfjcgaaDoorW.PrintWords Go.Proofs.YtjlmliagkfjcgaaDoorW.PrintLast
theorem sealed_true (l0 : List Int) (c0 : l0.all u64B = true) (h : l0.length ≤ 1048576) : secateurtop_sealed.f l0 = some true := by
  have j0 := lebJoin_length_le l0
  have jb := lebJoin_bytes l0
  have e1 : leb_Join.f l0 = some (lebJoin l0) := by unfold leb_Join.f; rw [if_pos ⟨c0, by omega⟩]
  have e2 : crc_Seal.f (lebJoin l0) = some (sealL (lebJoin l0)) := by unfold crc_Seal.f; rw [if_pos ⟨jb, by omega⟩]
  have e3 : crc_Open.f (sealL (lebJoin l0)) = some (lebJoin l0, 0) := by
    unfold crc_Open.f
    rw [if_pos ⟨sealL_bytes jb, by rw [sealL_length]; omega⟩, openL_sealL]
  have e4 : leb_Split.f (lebJoin l0) = some (l0, 0) := by unfold leb_Split.f; rw [if_pos ⟨jb, by omega⟩, split_join l0 c0]
  unfold secateurtop_sealed.f
  rw [e1, Option.bind_some, e2, Option.bind_some, e3, Option.bind_some, if_pos rfl, e4, Option.bind_some, if_pos rfl]
  simp [secateurref01_SameNums.f]
theorem TopSealed : secateurtop_TopSealed.Pure := by
  intro l0 _ hl0 hb0
  unfold secateurtop_TopSealed.f
  rw [sealed_true [300, 0] (by decide) (by decide), Option.bind_some, if_pos rfl, sealed_true l0 (u64s_wf hb0) (by omega)]
  rfl
end Go.Proofs.YtjlmliagkfjcgaaDoor.Pure
