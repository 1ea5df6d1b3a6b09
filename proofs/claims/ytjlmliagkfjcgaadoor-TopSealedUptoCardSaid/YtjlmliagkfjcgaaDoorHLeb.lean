import Derived.Test.YtjlmliagkfjcgaaDoorHPutR
import Derived.Test.YtjlmliagkfjcgaaDoorQ1x1
import Derived.Test.YtjlmliagkfjcgaaDoorQ1x2
namespace Go.Proofs.YtjlmliagkfjcgaaDoor.Hand
open Go.RowKit Go.Proofs.YtjlmliagkfjcgaaDoorW.PrintWords Go.Proofs.YtjlmliagkfjcgaaDoorW.PrintLast Go.Proofs.YtjlmliagkfjcgaaDoorW.PrintMore
set_option linter.unusedVariables false
set_option linter.unusedSimpArgs false

/-! ### leb.Size -/
def leb_Size.f (a0 : Int) : Option Int := if 0 ≤ a0 ∧ a0 < 18446744073709551616 then some ((lebPut a0).length : Int) else none
theorem lebTail_length_le : ∀ f m, (lebTail f m).length ≤ f
  | 0, _ => by simp [lebTail]
  | f + 1, m => by
    unfold lebTail
    split
    · simp
    · simp only [List.length_cons]
      have := lebTail_length_le f (m / 128)
      omega
theorem lebPut_length_le (n : Int) : (lebPut n).length ≤ 10 := lebTail_length_le 10 n
theorem lebTail_length_pos : ∀ f m, 0 < f → 0 < (lebTail f m).length
  | f + 1, m, _ => by
    unfold lebTail
    split <;> simp
theorem w64 {x : Int} (h0 : -9223372036854775808 ≤ x) (h1 : x ≤ 9223372036854775807) : wrap64 x = x := by
  unfold wrap64
  omega
theorem wu64 {x : Int} (h0 : 0 ≤ x) (h1 : x < 18446744073709551616) : IntKind.u64.wrap x = x := by
  simp [IntKind.wrap, IntKind.bits, IntKind.signed]
  omega
theorem p128_10 : (128 : Int) ^ 10 = 1180591620717411303424 := by decide
/-! ### leb.Zig, leb.Zag and the reference's -/
def zigI (n : Int) : Int := if 0 ≤ n then 2 * n else -2 * n - 1
def zagI (u : Int) : Int := if u % 2 = 0 then u / 2 else -(u / 2) - 1
def leb_Zig.f (a0 : Int) : Option Int := if -9223372036854775808 ≤ a0 ∧ a0 < 9223372036854775808 then some (zigI a0) else none
def secateurref01_Zig.f (a0 : Int) : Option Int := leb_Zig.f a0
def leb_Zag.f (a0 : Int) : Option Int := if 0 ≤ a0 ∧ a0 < 18446744073709551616 then some (zagI a0) else none
def secateurref01_Zag.f (a0 : Int) : Option Int := leb_Zag.f a0

theorem xor_ones (k : IntKind) (x y : Int) (hy : BitVec.ofInt k.bits y = BitVec.allOnes k.bits) : Go.bits .xor k x y = k.wrap (((2 ^ k.bits - 1 - (x % 2 ^ k.bits).toNat : Nat)) : Int) := by
  simp only [Go.bits, hy, BitVec.xor_allOnes, BitVec.toNat_not, BitVec.toNat_ofInt]
  norm_cast
theorem xor_zero (k : IntKind) (x : Int) : Go.bits .xor k x 0 = k.wrap ((x % 2 ^ k.bits).toNat : Int) := by
  have h0 : BitVec.ofInt k.bits 0 = 0#k.bits := by simp
  simp only [Go.bits, h0, BitVec.xor_zero, BitVec.toNat_ofInt]
  norm_cast
theorem p64 : (2 : Int) ^ 64 = 18446744073709551616 := by decide
theorem and_one (a0 : Int) (h0 : 0 ≤ a0) (h1 : a0 < 18446744073709551616) : Go.bits .and .u64 a0 1 = a0 % 2 := by
  have := Go.bits_mask .u64 64 (by decide) (fun n h0 h1 => wu64 h0 (by rw [p64] at h1; exact h1)) 1 (by decide) a0 h0 (by rw [p64]; exact h1)
  exact this
theorem zag_eq (a0 : Int) (h0 : 0 ≤ a0) (h1 : a0 < 18446744073709551616) : Q1.leb_Zag.f a0 = some (zagI a0) := by
  unfold Q1.leb_Zag.f zagI
  congr 1
  rw [and_one a0 h0 h1]
  have e2 : ((2 : Int) ^ IntKind.i64.bits) = 18446744073709551616 := by decide
  have e3 : ((2 : Nat) ^ IntKind.i64.bits) = 18446744073709551616 := by decide
  have wi : ∀ x : Int, IntKind.i64.wrap x = wrap64 x := fun x => by rw [IntKind.wrap_i64]; unfold wrap64; omega
  rw [w64 (x := a0 / 2) (by omega) (by omega), w64 (x := a0 % 2) (by omega) (by omega), w64 (x := -(a0 % 2)) (by omega) (by omega)]
  by_cases h : a0 % 2 = 0
  · rw [if_pos h, h]
    have w0 : (-(0 : Int)) = 0 := rfl
    rw [w0, xor_zero, e2, wi, w64 (by omega) (by omega)]
    omega
  · have h' : a0 % 2 = 1 := by omega
    rw [if_neg h, h', xor_ones _ _ _ (by decide), e2, e3, wi]
    unfold wrap64
    omega
theorem zigR_eq (a0 : Int) (h0 : -9223372036854775808 ≤ a0) (h1 : a0 < 9223372036854775808) : Q1.secateurref01_Zig.f a0 = some (zigI a0) := by
  unfold Q1.secateurref01_Zig.f zigI
  by_cases h : 0 ≤ a0
  · rw [if_pos (show a0 ≥ 0 from h), if_pos h, wu64 h (by omega), wu64 (by omega) (by omega)]
    congr 1
    omega
  · rw [if_neg (show ¬ a0 ≥ 0 from h), if_neg h]
    congr 1
    rw [w64 (x := a0 + 1) (by omega) (by omega), w64 (x := -(a0 + 1)) (by omega) (by omega), wu64 (x := -(a0 + 1)) (by omega) (by omega), wu64 (x := -(a0 + 1) * 2) (by omega) (by omega), wu64 (by omega) (by omega)]
    omega
theorem zagR_eq (a0 : Int) (h0 : 0 ≤ a0) (h1 : a0 < 18446744073709551616) : Q1.secateurref01_Zag.f a0 = some (zagI a0) := by
  unfold Q1.secateurref01_Zag.f zagI
  have t1 : Int.tmod a0 2 = a0 % 2 := Int.tmod_eq_emod_of_nonneg h0
  have t2 : Int.tdiv a0 2 = a0 / 2 := Int.tdiv_eq_ediv_of_nonneg h0
  rw [t1, t2, wu64 (x := a0 / 2) (by omega) (by omega), w64 (x := a0 / 2) (by omega) (by omega), w64 (x := -(a0 / 2)) (by omega) (by omega), w64 (x := -(a0 / 2) - 1) (by omega) (by omega)]
  split <;> rfl

theorem leb_Zag.calls (a0 : Int) (r : Int) (w : World) (h : leb_Zag.f a0 = some r) :
    Calls Tryd.prog 97 #[.int .u64 a0] w fun e w' => e = .returned (.int .i64 r) ∧ Drawn0 w w' := by
  unfold leb_Zag.f at h
  split at h
  · rename_i hg
    exact Q1.leb_Zag.calls a0 r w ((zag_eq a0 hg.1 hg.2).trans h)
  · cases h
theorem secateurref01_Zig.calls (a0 : Int) (r : Int) (w : World) (h : secateurref01_Zig.f a0 = some r) :
    Calls Tryd.prog 43 #[.int .i64 a0] w fun e w' => e = .returned (.int .u64 r) ∧ Drawn0 w w' := by
  unfold secateurref01_Zig.f leb_Zig.f at h
  split at h
  · rename_i hg
    exact Q1.secateurref01_Zig.calls a0 r w ((zigR_eq a0 hg.1 hg.2).trans h)
  · cases h
theorem secateurref01_Zag.calls (a0 : Int) (r : Int) (w : World) (h : secateurref01_Zag.f a0 = some r) :
    Calls Tryd.prog 137 #[.int .u64 a0] w fun e w' => e = .returned (.int .i64 r) ∧ Drawn0 w w' := by
  unfold secateurref01_Zag.f leb_Zag.f at h
  split at h
  · rename_i hg
    exact Q1.secateurref01_Zag.calls a0 r w ((zagR_eq a0 hg.1 hg.2).trans h)
  · cases h
end Go.Proofs.YtjlmliagkfjcgaaDoor.Hand
