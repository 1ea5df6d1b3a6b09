/- What is sealed is opened as it was, and what is opened was sealed so. -/
import Derived.Test.YtjlmliagkfjcgaaDoorPCrcSealsx1
import Derived.Test.YtjlmliagkfjcgaaDoorHLebP
namespace Go.Proofs.YtjlmliagkfjcgaaDoor.Pure
open Go.RowKit Go.Proofs.YtjlmliagkfjcgaaDoor.Hand Go.Proofs.YtjlmliagkfjcgaaDoor.PCrcSeals Go.Proofs.YtjlmliagkfjcgaaDoorW.PrintWords Go.Proofs.YtjlmliagkfjcgaaDoorW.PrintLast
theorem sumBytes_bytes (l : List Int) : (sumBytes (crcSum l)).all byteB = true := by
  have := crcSum_range l
  simp only [sumBytes, List.all_cons, List.all_nil, Bool.and_true, Bool.and_eq_true, byteB_iff]
  omega
theorem sealL_bytes {l : List Int} (h : l.all byteB = true) : (sealL l).all byteB = true := by
  rw [sealL, List.all_append, h, sumBytes_bytes]; rfl
theorem openL_sealL (l : List Int) : openL (sealL l) = (l, 0) := by
  have hl : (sealL l).length = l.length + 4 := by simp [sealL, sumBytes]
  have hd : (sealL l).drop l.length = sumBytes (crcSum l) := by simp [sealL]
  have ht : (sealL l).take l.length = l := by simp [sealL]
  unfold openL
  rw [if_neg (by omega), show (sealL l).length - 4 = l.length by omega, hd, ht, if_pos rfl]
theorem sealL_openL {l : List Int} (h : (openL l).2 = 0) : sealL (openL l).1 = l := by
  unfold openL at h ⊢
  split at h
  · simp at h
  · rename_i h4
    rw [if_neg h4]
    split at h
    · rename_i h5
      rw [if_pos h5]
      show l.take _ ++ sumBytes _ = l
      rw [← h5, List.take_append_drop]
    · simp at h
theorem openL_bytes {l : List Int} (h : l.all byteB = true) : (openL l).1.all byteB = true ∧ (openL l).1.length ≤ l.length := by
  unfold openL
  split
  · exact ⟨rfl, Nat.zero_le _⟩
  · split
    · exact ⟨List.all_eq_true.2 (fun x hx => List.all_eq_true.1 h x (List.mem_of_mem_take hx)), by simp⟩
    · exact ⟨rfl, Nat.zero_le _⟩
theorem CrcSeals : secateurlaw02_CrcSeals.Pure := by
  intro l0 l1 _ m0 hb0 _ m1 hb1
  have hb0 := bytes_wf hb0
  have hb1 := bytes_wf hb1
  have e1 : crc_Seal.f l0 = some (sealL l0) := by unfold crc_Seal.f; rw [if_pos ⟨hb0, by omega⟩]
  have e1' : secateurref02_Seal.f l0 = some (sealL l0) := e1
  have hsl : (sealL l0).length = l0.length + 4 := by simp [sealL, sumBytes]
  have e2 : crc_Open.f (sealL l0) = some (l0, 0) := by
    unfold crc_Open.f
    rw [if_pos ⟨sealL_bytes hb0, by omega⟩, openL_sealL]
  have e3 : crc_Open.f l1 = some (openL l1) := by unfold crc_Open.f; rw [if_pos ⟨hb1, by omega⟩]
  have e3' : secateurref02_Open.f l1 = some (openL l1) := e3
  have ho := openL_bytes hb1
  have e4 : crc_Seal.f (openL l1).1 = some (sealL (openL l1).1) := by unfold crc_Seal.f; rw [if_pos ⟨ho.1, by omega⟩]
  have hso := @sealL_openL l1
  unfold secateurlaw02_CrcSeals.f
  simp only [secateurlaw02_live.f, e1, e1', e2, e3, e3', e4, Option.bind_some, if_true, secateurref01_SameBytes.f, decide_true]
  by_cases h : (openL l1).2 = 0
  · simp [h, hso h]
  · simp [h]
end Go.Proofs.YtjlmliagkfjcgaaDoor.Pure
