/- What is turned within four bytes in a row has another sum. -/
import Derived.Test.YtjlmliagkfjcgaaDoorHFourP
namespace Go.Proofs.YtjlmliagkfjcgaaDoor.Pure
open Go.RowKit Go.Proofs.YtjlmliagkfjcgaaDoor.Hand Go.Proofs.YtjlmliagkfjcgaaDoorW.PrintWords Go.Proofs.YtjlmliagkfjcgaaDoorW.PrintLast
theorem CrcFour (a0 : Option Addr) (len0 cap0 : Nat) (z0 : List Int) (k b0 b1 b2 b3 : Int) (w : World)
    (w0 : (a0 = none ∧ len0 = 0 ∧ cap0 = 0 ∧ z0 = []) ∨ ∃ x, a0 = some x ∧ len0 ≤ cap0 ∧ cap0 ≤ maxLen ∧ z0.length = cap0 ∧ (∀ i, i < z0.length → w.cell? (x.add i) = some (.int .u8 (z0.getD i 0))) ∧ ∀ n ∈ z0, (Lit.int .u8 n).wf = true) (y0 : len0 * 1 ≤ 140737488351232)
    (wk : (Lit.int .u16 k).wf = true) (wb0 : (Lit.int .u8 b0).wf = true) (wb1 : (Lit.int .u8 b1).wf = true) (wb2 : (Lit.int .u8 b2).wf = true) (wb3 : (Lit.int .u8 b3).wf = true) (hG : CrcTab w) :
    Calls Tryd.prog 6 #[.slice a0 len0 cap0, .int .u16 k, .agg #[.int .u8 b0, .int .u8 b1, .int .u8 b2, .int .u8 b3]] w fun e w' => e = .returned (.bool true) ∧ Below w.heap.size w w' := by
  obtain ⟨l0, rfl, hr0, hm0, hw0, hc0⟩ := ReadsInt.ofRowC w0
  have hb := bytes_wf hw0
  have hk : 0 ≤ k ∧ k < 65536 := by
    simp [Lit.wf, IntKind.min, IntKind.max, IntKind.signed, IntKind.bits] at wk
    omega
  obtain ⟨kn, rfl⟩ := Int.eq_ofNat_of_zero_le hk.1
  have hbs : [b0, b1, b2, b3].all byteB = true := by
    simp only [List.all_cons, List.all_nil, Bool.and_true, byteB_wf wb0, byteB_wf wb1, byteB_wf wb2, byteB_wf wb3]
  have hx := (fourRun_at l0 kn [b0, b1, b2, b3] hb hbs 4).1
  have hs := four_same l0 kn [b0, b1, b2, b3] hb hbs
  obtain ⟨p, hp⟩ : ∃ p, p = fourRun l0 kn [b0, b1, b2, b3] 4 := ⟨_, rfl⟩
  have e1 : crc_Sum.f (fourRun l0 kn [b0, b1, b2, b3] 4).1 = some (crcSum p.1) := by unfold crc_Sum.f; rw [if_pos hx, hp]
  have e2 : crc_Sum.f l0 = some (crcSum l0) := by unfold crc_Sum.f; rw [if_pos hb]
  have hwk := CrcFour_walk a0 cap0 l0 kn b0 b1 b2 b3 _ _ w (Kd.C_of_reads (h1 := fun _ => rfl) hr0) hc0 hG (by omega) hk.1 hk.2 e1 e2
  rw [← hp] at hwk hs
  refine hwk.mono fun e w' ⟨he, hb⟩ => ⟨?_, hb⟩
  rw [he]
  cases hq : p.2 with
  | false =>
    have := hs.2 hq
    rw [this]
    simp
  | true =>
    have : crcSum p.1 ≠ crcSum l0 := fun h => by rw [hs.1 h] at hq; cases hq
    rw [bne_iff_ne.2 this]
    rfl
end Go.Proofs.YtjlmliagkfjcgaaDoor.Pure
