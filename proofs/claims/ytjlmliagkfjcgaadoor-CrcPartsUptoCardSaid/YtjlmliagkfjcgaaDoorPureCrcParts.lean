/- What is added in two parts is as what is added at once. -/
import Derived.Test.YtjlmliagkfjcgaaDoorPCrcPartsx1
import Derived.Test.YtjlmliagkfjcgaaDoorPureCrcSums
namespace Go.Proofs.YtjlmliagkfjcgaaDoor.Pure
open Go.RowKit Go.Proofs.YtjlmliagkfjcgaaDoor.Hand Go.Proofs.YtjlmliagkfjcgaaDoor.PCrcParts Go.Proofs.YtjlmliagkfjcgaaDoorW.PrintWords Go.Proofs.YtjlmliagkfjcgaaDoorW.PrintLast
theorem CrcParts : secateurlaw02_CrcParts.Pure := by
  intro a0 l1 l2 h0 _ m1 hb1 _ m2 hb2
  have hb1 := bytes_wf hb1
  have hb2 := bytes_wf hb2
  have h1 := CrcSums_u32 h0
  have e1 : crc_Add.f a0 l1 = some ((crcAdd (BitVec.ofInt 32 a0) l1).toNat : Int) := by unfold crc_Add.f; rw [if_pos ⟨h1, hb1⟩]
  have e2 : crc_Add.f ((crcAdd (BitVec.ofInt 32 a0) l1).toNat : Int) l2 = some ((crcAdd (BitVec.ofInt 32 a0) (l1 ++ l2)).toNat : Int) := by
    unfold crc_Add.f
    rw [if_pos ⟨u32B_of _, hb2⟩, b32_of, crcAdd_append]
  have e3 : crc_Add.f a0 (l1 ++ l2) = some ((crcAdd (BitVec.ofInt 32 a0) (l1 ++ l2)).toNat : Int) := by
    unfold crc_Add.f
    rw [if_pos ⟨h1, by rw [List.all_append, hb1, hb2]; rfl⟩]
  obtain ⟨p, hp⟩ : ∃ p, p = ((crcAdd (BitVec.ofInt 32 a0) l1).toNat : Int) := ⟨_, rfl⟩
  obtain ⟨q, hq⟩ : ∃ q, q = ((crcAdd (BitVec.ofInt 32 a0) (l1 ++ l2)).toNat : Int) := ⟨_, rfl⟩
  rw [← hp] at e1 e2
  rw [← hq] at e2 e3
  have e7 : secateurlaw02_live.f = some true := rfl
  unfold secateurlaw02_CrcParts.f
  rw [if_pos (by rw [List.length_nil]; omega), Option.bind_some, List.nil_append, if_pos (by omega), e7, Option.bind_some, if_pos rfl, e1, Option.bind_some, e2, Option.bind_some, e3, Option.bind_some, beq_self_eq_true]
end Go.Proofs.YtjlmliagkfjcgaaDoor.Pure
