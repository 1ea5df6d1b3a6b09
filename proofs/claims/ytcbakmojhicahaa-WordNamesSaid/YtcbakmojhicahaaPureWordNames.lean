import Derived.Test.YtcbakmojhicahaaPWordNamesx
namespace Go.Proofs.Ytcbakmojhicahaa.Pure
open Go.RowKit Go.Proofs.Ytcbakmojhicahaa.PWordNames Go.Proofs.Ytcbakmojhicahaa.Hand Go.Proofs.YtcbakmojhicahaaW.PrintWords Go.Proofs.YtcbakmojhicahaaW.PrintLast

theorem WordNames : secateurlaw04_WordNames.Pure := by
  intro s hs
  have h1 : word_Split.f s = some (splitB s) := by unfold word_Split.f secateurref04_Split.f; rw [if_pos (by omega)]
  have h2 : secateurref04_Split.f s = some (splitB s) := by unfold secateurref04_Split.f; rw [if_pos (by omega)]
  have h3 := name_some (s := s) (by omega)
  have h4 : secateurref04_Name.f s = some (nameL s.data.toList) := by unfold secateurref04_Name.f; rw [if_pos (by omega)]
  have h5 := class_some (s := s) (by omega)
  have h6 : secateurref04_Class.f s = some (classL s.data.toList) := by unfold secateurref04_Class.f; rw [if_pos (by omega)]
  have h7 : secateurlaw04_live.f = some true := rfl
  unfold secateurlaw04_WordNames.f
  rw [h1, Option.bind_some, h2, Option.bind_some, h7, Option.bind_some, if_pos rfl, h3, Option.bind_some, h4, Option.bind_some, if_pos (by simp), h5, Option.bind_some, h6, Option.bind_some, if_pos (by simp), if_pos rfl, if_pos rfl, if_pos (by simp)]
  split
  · rename_i hb
    obtain ⟨e1, e2⟩ := splitB_true s hb
    have e3 : ((splitB s).1 ++ (⟨#[46]⟩ : ByteArray)).size = (splitB s).1.size + 1 := by rw [ByteArray.size_append]; rfl
    rw [if_pos (by omega), if_pos (by omega), e1]
    simp
  · rfl
end Go.Proofs.Ytcbakmojhicahaa.Pure
