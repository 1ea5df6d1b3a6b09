import Derived.Test.YtcbakmojhicahaaHWordK
import Derived.Test.YtcbakmojhicahaaQ6x
namespace Go.Proofs.Ytcbakmojhicahaa.Hand
open Go.RowKit Go.Proofs.YtcbakmojhicahaaW.PrintWords Go.Proofs.YtcbakmojhicahaaW.PrintLast Go.Proofs.YtcbakmojhicahaaW.PrintMore
set_option linter.unusedVariables false
set_option linter.unusedSimpArgs false

/-! ### what must be whatever is asked -/
def secateurlaw04_live.f : Option Bool := some true
theorem live04_true : Q6.secateurlaw04_live.f = some true := by decide +kernel
theorem secateurlaw04_live.calls (r : Bool) (w : World) (hGMaxL : MaxL w) (h : secateurlaw04_live.f = some r) :
    Calls Try.prog 21 #[] w fun e w' => e = .returned (.bool r) ∧ Below w.heap.size w w' :=
  Q6.secateurlaw04_live.calls r w hGMaxL (live04_true.trans h)
/-! ### plain facts -/
theorem splitB_true (s : ByteArray) (h : (splitB s).2.2 = true) : ((splitB s).1 ++ (⟨#[46]⟩ : ByteArray)) ++ (splitB s).2.1 = s ∧ (splitB s).1.size + 1 + (splitB s).2.1.size = s.size := by
  have hat : ∀ k i, lastAt s 46 k = some i → bt s i = 46 := by
    intro k
    induction k with
    | zero => intro i h; cases h
    | succ k ih =>
      intro i h
      unfold lastAt at h
      split at h
      · rename_i hb; cases h; exact hb
      · exact ih i h
  unfold splitB at h ⊢
  cases hl : lastAt s 46 s.size with
  | none => rw [hl] at h; cases h
  | some i =>
    have hi := lastAt_lt s 46 _ _ hl
    have hb := hat _ _ hl
    rw [hl] at h
    simp only at h ⊢
    split at h
    · rename_i hc
      rw [if_pos hc]
      obtain ⟨b, hb1, hb2, hb3⟩ := bt_bl s i hi
      have hb46 : b = 46 := by
        apply UInt8.toNat.inj
        rw [hb2] at hb
        have : (46 : UInt8).toNat = 46 := rfl
        omega
      have e1 : bl (s.extract 0 i) = (bl s).take i := by
        unfold bl
        rw [ByteArray.data_extract]
        simp
      have e2 : bl (s.extract (i + 1) s.size) = (bl s).drop (i + 1) := by
        unfold bl
        rw [ByteArray.data_extract]
        simp only [Array.toList_extract, List.extract_eq_drop_take']
        rw [List.take_of_length_le]
        rw [Array.length_toList]
        exact Nat.le_refl _
      constructor
      · apply bl_inj
        rw [bl_append, bl_append, e1, e2]
        have : bl (⟨#[46]⟩ : ByteArray) = [46] := rfl
        rw [this, List.append_assoc, List.singleton_append, ← hb46, ← hb3, List.take_append_drop]
      · rw [← bl_len, ← bl_len (s.extract (i + 1) s.size), e1, e2]
        have := bl_len s
        simp
        omega
    · cases h
end Go.Proofs.Ytcbakmojhicahaa.Hand
