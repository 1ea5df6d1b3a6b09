import Derived.Test.YtcbakmojhicahaaHWordC
namespace Go.Proofs.Ytcbakmojhicahaa.Hand
open Go.RowKit Go.Proofs.YtcbakmojhicahaaW.PrintWords Go.Proofs.YtcbakmojhicahaaW.PrintLast Go.Proofs.YtcbakmojhicahaaW.PrintMore
set_option linter.unusedVariables false
set_option linter.unusedSimpArgs false

def lastI (s : ByteArray) (c : Int) (k : Nat) : Int := match lastAt s c k with | none => -1 | some i => (i : Int)
theorem lastIdx_at (s : ByteArray) (c : Int) : ∀ k, k ≤ s.size → Lib.lastIdx s c k = lastI s c k
  | 0, _ => rfl
  | k + 1, h => by
    have ih := lastIdx_at s c k (by omega)
    have e : ((s.data[k]!).toNat : Int) = bt s k := by
      rw [bt_nat s k (by omega)]
      have : s.data[k]! = s[k] := getElem!_pos s.data k (show k < s.data.size by exact (by omega : k < s.size))
      rw [this]
    unfold Lib.lastIdx lastI lastAt
    rw [e]
    by_cases h1 : bt s k = c
    · rw [if_pos h1, if_pos h1]
    · rw [if_neg h1, if_neg h1, ih]
      rfl
def strings_LastIndexByte.f (s : ByteArray) (c : Int) : Option Int := if s.size ≤ 4611686018427387903 then some (lastI s c s.size) else none
theorem strings_LastIndexByte.calls (a0 : ByteArray) (a1 : Int) (r : Int) (w : World) (h : strings_LastIndexByte.f a0 a1 = some r) :
    Calls Try.prog 79 #[.string a0, .int .u8 a1] w fun e w' => e = .returned (.int .i64 r) ∧ Drawn0 w w' := by
  unfold strings_LastIndexByte.f at h
  split at h
  · rename_i hs
    obtain rfl := Option.some.inj h
    refine (Try.strings_LastIndexByte a0 a1 (by omega) w).mono ?_
    rintro e w' ⟨he, rfl⟩
    refine ⟨?_, Drawn0.refl _⟩
    rw [he, Lib.lastIndexByte, lastIdx_at a0 a1 a0.size (Nat.le_refl _)]
  · cases h
end Go.Proofs.Ytcbakmojhicahaa.Hand
