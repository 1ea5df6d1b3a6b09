import Derived.Test.YtjlmliagkfjcgaaDoorHOpen
import Derived.Test.YtjlmliagkfjcgaaDoorHLebP
namespace Go.Proofs.YtjlmliagkfjcgaaDoor.Hand
open Go.RowKit Go.Proofs.YtjlmliagkfjcgaaDoorW.PrintWords Go.Proofs.YtjlmliagkfjcgaaDoorW.PrintLast
theorem sumBytes_bytes (l : List Int) : (sumBytes (crcSum l)).all byteB = true := by
  have := crcSum_range l
  simp only [sumBytes, List.all_cons, List.all_nil, Bool.and_true, Bool.and_eq_true, byteB_iff]
  omega
theorem sealL_bytes {l : List Int} (h : l.all byteB = true) : (sealL l).all byteB = true := by
  rw [sealL, List.all_append, h, sumBytes_bytes]; rfl
theorem openL_sealL (l : List Int) : openL (sealL l) = (l, 0) := by
  have hl : (sealL l).length = l.length + 4 := by simp [sealL, sumBytes]
  have hd : (sealL l).drop l.length = sumBytes (crcSum l) := by simp [sealL]
  have ht : (sealL l).take l.length = l := by simp [sealL]
  unfold openL
  rw [if_neg (by omega), show (sealL l).length - 4 = l.length by omega, hd, ht, if_pos rfl]
theorem sealL_openL {l : List Int} (h : (openL l).2 = 0) : sealL (openL l).1 = l := by
  unfold openL at h ⊢
  split at h
  · simp at h
  · rename_i h4
    rw [if_neg h4]
    split at h
    · rename_i h5
      rw [if_pos h5]
      show l.take _ ++ sumBytes _ = l
      rw [← h5, List.take_append_drop]
    · simp at h
theorem openL_bytes {l : List Int} (h : l.all byteB = true) : (openL l).1.all byteB = true ∧ (openL l).1.length ≤ l.length := by
  unfold openL
  split
  · exact ⟨rfl, Nat.zero_le _⟩
  · split
    · exact ⟨List.all_eq_true.2 (fun x hx => List.all_eq_true.1 h x (List.mem_of_mem_take hx)), by simp⟩
    · exact ⟨rfl, Nat.zero_le _⟩
theorem sealL_length (l : List Int) : (sealL l).length = l.length + 4 := by simp [sealL, sumBytes]
end Go.Proofs.YtjlmliagkfjcgaaDoor.Hand
