/- crc.Sum, Add, End and Begin answer as the document's reference does: for every state and bytes. -/
import Derived.Test.YtjlmliagkfjcgaaDoorPCrcSumsx1
import Derived.Test.YtjlmliagkfjcgaaDoorHLebP
namespace Go.Proofs.YtjlmliagkfjcgaaDoor.Pure
open Go.RowKit Go.Proofs.YtjlmliagkfjcgaaDoor.Hand Go.Proofs.YtjlmliagkfjcgaaDoor.PCrcSums Go.Proofs.YtjlmliagkfjcgaaDoorW.PrintWords Go.Proofs.YtjlmliagkfjcgaaDoorW.PrintLast
theorem CrcSums_u32 {x : Int} (h : (Lit.int .u32 x).wf = true) : u32B x = true := by
  have h1 : (0 : Int) ≤ x ∧ x ≤ 4294967295 := by
    simp [Lit.wf, IntKind.min, IntKind.max, IntKind.signed, IntKind.bits] at h
    omega
  exact u32B_iff.2 ⟨h1.1, by omega⟩
theorem CrcSums_e3 {a0 : Int} (h1 : u32B a0 = true) : crc_End.f a0 = some (Go.bits .xor .u32 IntKind.u32.max a0) := by
  unfold crc_End.f
  rw [if_pos h1, Hand.u32_xor, BitVec.xor_comm]
  have e0 : IntKind.u32.max = 4294967295 := by decide
  have e : BitVec.ofInt 32 4294967295 = BitVec.allOnes 32 := by decide
  rw [e0, e, BitVec.xor_allOnes]
theorem CrcSums_e4 {l1 : List Int} (hb1 : l1.all byteB = true) : crc_Add.f 4294967295 l1 = some ((crcAdd (BitVec.allOnes 32) l1).toNat : Int) := by
  unfold crc_Add.f
  rw [if_pos ⟨by decide, hb1⟩]
  have e : BitVec.ofInt 32 4294967295 = BitVec.allOnes 32 := by decide
  rw [e]
theorem CrcSums_e5 (l1 : List Int) : crc_End.f ((crcAdd (BitVec.allOnes 32) l1).toNat : Int) = some (crcSum l1) := by
  unfold crc_End.f
  rw [if_pos (u32B_of _), b32_of]
  rfl
theorem CrcSums : secateurlaw02_CrcSums.Pure := by
  intro a0 l1 h0 _ _ hb
  have hb1 := bytes_wf hb
  have h1 := CrcSums_u32 h0
  have e1 : crc_Sum.f l1 = some (crcSum l1) := by unfold crc_Sum.f; rw [if_pos hb1]
  have e2 : secateurref02_Sum.f l1 = some (crcSum l1) := e1
  obtain ⟨a, ha⟩ : ∃ a, crc_Add.f a0 l1 = some a := ⟨_, by unfold crc_Add.f; rw [if_pos ⟨h1, hb1⟩]⟩
  have ha2 : secateurref02_Add.f a0 l1 = some a := ha
  have e3 := CrcSums_e3 h1
  have e4 := CrcSums_e4 hb1
  have e5 := CrcSums_e5 l1
  obtain ⟨q, hq⟩ : ∃ q, q = ((crcAdd (BitVec.allOnes 32) l1).toNat : Int) := ⟨_, rfl⟩
  obtain ⟨m, hm⟩ : ∃ m, m = Go.bits .xor .u32 IntKind.u32.max a0 := ⟨_, rfl⟩
  have e6 : crc_Begin.f = some 4294967295 := rfl
  have e7 : secateurlaw02_live.f = some true := rfl
  rw [← hq] at e4 e5
  rw [← hm] at e3
  unfold secateurlaw02_CrcSums.f
  rw [← hm, e7, Option.bind_some, if_pos rfl, e1, Option.bind_some, e2, Option.bind_some, if_pos rfl, ha, Option.bind_some, ha2, Option.bind_some, if_pos rfl, e3, Option.bind_some, if_pos rfl, e6, Option.bind_some, e4, Option.bind_some, e5, Option.bind_some, Option.bind_some, beq_self_eq_true]
end Go.Proofs.YtjlmliagkfjcgaaDoor.Pure
