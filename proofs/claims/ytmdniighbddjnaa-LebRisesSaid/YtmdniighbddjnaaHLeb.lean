import Derived.Test.YtmdniighbddjnaaQ1x1
import Derived.Test.YtmdniighbddjnaaQ1x2
namespace Go.Proofs.Ytmdniighbddjnaa.Hand
open Go.RowKit Go.Proofs.YtmdniighbddjnaaW.PrintWords Go.Proofs.YtmdniighbddjnaaW.PrintLast Go.Proofs.YtmdniighbddjnaaW.PrintMore
set_option linter.unusedVariables false
set_option linter.unusedSimpArgs false

/-! ### leb.Size -/
def leb_Size.f (a0 : Int) : Option Int := if 0 ≤ a0 ∧ a0 < 18446744073709551616 then some ((lebPut a0).length : Int) else none
theorem lebTail_length_le : ∀ f m, (lebTail f m).length ≤ f
  | 0, _ => by simp [lebTail]
  | f + 1, m => by
    unfold lebTail
    split
    · simp
    · simp only [List.length_cons]
      have := lebTail_length_le f (m / 128)
      omega
theorem lebPut_length_le (n : Int) : (lebPut n).length ≤ 10 := lebTail_length_le 10 n
theorem lebTail_length_pos : ∀ f m, 0 < f → 0 < (lebTail f m).length
  | f + 1, m, _ => by
    unfold lebTail
    split <;> simp
theorem w64 {x : Int} (h0 : -9223372036854775808 ≤ x) (h1 : x ≤ 9223372036854775807) : wrap64 x = x := by
  unfold wrap64
  omega
theorem wu64 {x : Int} (h0 : 0 ≤ x) (h1 : x < 18446744073709551616) : IntKind.u64.wrap x = x := by
  simp [IntKind.wrap, IntKind.bits, IntKind.signed]
  omega
theorem size_loop (f : Nat) : ∀ (m c : Int), 0 ≤ m → m < 128 ^ f → 0 < f → 0 ≤ c → c + f ≤ 1000 → Q1.leb_Size.l0 f (m / 128) c = some (c + (lebTail f m).length - 1) := by
  induction f with
  | zero => intro m c h0 h1 h2; exact absurd h2 (by omega)
  | succ f ih =>
    intro m c h0 h1 _ hc hc1
    simp only [Q1.leb_Size.l0]
    by_cases hz : m / 128 = 0
    · rw [if_neg (by omega), lebTail, if_pos hz]
      congr 1
      simp only [List.length_cons, List.length_nil]
      omega
    · rw [if_pos (by omega), lebTail, if_neg hz]
      have h2 : m / 128 < 128 ^ f := by rw [Int.pow_succ] at h1; omega
      have hf0 : 0 < f := by
        rcases Nat.eq_zero_or_pos f with h | h
        · subst h; simp at h2; omega
        · exact h
      rw [w64 (by omega) (by omega), ih (m / 128) (c + 1) (by omega) h2 hf0 (by omega) (by omega)]
      simp only [List.length_cons]
      congr 1
      push_cast
      omega
theorem p128_10 : (128 : Int) ^ 10 = 1180591620717411303424 := by decide
theorem leb_Size.calls (a0 : Int) (r : Int) (w : World) (h : leb_Size.f a0 = some r) :
    Calls Try.prog 14 #[.int .u64 a0] w fun e w' => e = .returned (.int .i64 r) ∧ Drawn0 w w' := by
  refine Q1.leb_Size.calls 10 a0 r w ?_
  unfold leb_Size.f at h
  split at h
  · rename_i hg
    rw [← h]
    unfold Q1.leb_Size.f
    rw [size_loop 10 a0 1 hg.1 (by rw [p128_10]; omega) (by omega) (by omega) (by omega)]
    congr 1
    show (1 : Int) + _ - 1 = _
    unfold lebPut
    omega
  · cases h

/-! ### leb.Zig, leb.Zag and the reference's -/
def zigI (n : Int) : Int := if 0 ≤ n then 2 * n else -2 * n - 1
def zagI (u : Int) : Int := if u % 2 = 0 then u / 2 else -(u / 2) - 1
def leb_Zig.f (a0 : Int) : Option Int := if -9223372036854775808 ≤ a0 ∧ a0 < 9223372036854775808 then some (zigI a0) else none
def secateurref01_Zig.f (a0 : Int) : Option Int := leb_Zig.f a0
def leb_Zag.f (a0 : Int) : Option Int := if 0 ≤ a0 ∧ a0 < 18446744073709551616 then some (zagI a0) else none
def secateurref01_Zag.f (a0 : Int) : Option Int := leb_Zag.f a0

theorem xor_ones (k : IntKind) (x y : Int) (hy : BitVec.ofInt k.bits y = BitVec.allOnes k.bits) : Go.bits .xor k x y = k.wrap (((2 ^ k.bits - 1 - (x % 2 ^ k.bits).toNat : Nat)) : Int) := by
  simp only [Go.bits, hy, BitVec.xor_allOnes, BitVec.toNat_not, BitVec.toNat_ofInt]
  norm_cast
theorem xor_zero (k : IntKind) (x : Int) : Go.bits .xor k x 0 = k.wrap ((x % 2 ^ k.bits).toNat : Int) := by
  have h0 : BitVec.ofInt k.bits 0 = 0#k.bits := by simp
  simp only [Go.bits, h0, BitVec.xor_zero, BitVec.toNat_ofInt]
  norm_cast
theorem zig_eq (a0 : Int) (h0 : -9223372036854775808 ≤ a0) (h1 : a0 < 9223372036854775808) : Q1.leb_Zig.f a0 = some (zigI a0) := by
  unfold Q1.leb_Zig.f zigI
  congr 1
  by_cases h : 0 ≤ a0
  · have e : a0 / 9223372036854775808 = 0 := by omega
    rw [if_pos h, e]
    have w0 : IntKind.u64.wrap 0 = 0 := by decide
    rw [w0, wu64 h (by omega), wu64 (by omega) (by omega), xor_zero]
    have e2 : ((2 : Int) ^ IntKind.u64.bits) = 18446744073709551616 := by decide
    rw [e2, wu64 (by omega) (by omega)]
    omega
  · have e : a0 / 9223372036854775808 = -1 := by omega
    rw [if_neg h, e]
    have w0 : IntKind.u64.wrap (-1) = 18446744073709551615 := by decide
    have w1 : IntKind.u64.wrap a0 = a0 + 18446744073709551616 := by
      simp [IntKind.wrap, IntKind.bits, IntKind.signed]; omega
    have w2 : IntKind.u64.wrap ((a0 + 18446744073709551616) * 2) = a0 * 2 + 18446744073709551616 := by
      simp [IntKind.wrap, IntKind.bits, IntKind.signed]; omega
    rw [w0, w1, w2, xor_ones _ _ _ (by decide)]
    have e2 : ((2 : Int) ^ IntKind.u64.bits) = 18446744073709551616 := by decide
    have e3 : ((2 : Nat) ^ IntKind.u64.bits) = 18446744073709551616 := by decide
    rw [e2, e3, wu64 (by omega) (by omega)]
    omega
theorem p64 : (2 : Int) ^ 64 = 18446744073709551616 := by decide
theorem and_one (a0 : Int) (h0 : 0 ≤ a0) (h1 : a0 < 18446744073709551616) : Go.bits .and .u64 a0 1 = a0 % 2 := by
  have := Go.bits_mask .u64 64 (by decide) (fun n h0 h1 => wu64 h0 (by rw [p64] at h1; exact h1)) 1 (by decide) a0 h0 (by rw [p64]; exact h1)
  exact this
theorem zag_eq (a0 : Int) (h0 : 0 ≤ a0) (h1 : a0 < 18446744073709551616) : Q1.leb_Zag.f a0 = some (zagI a0) := by
  unfold Q1.leb_Zag.f zagI
  congr 1
  rw [and_one a0 h0 h1]
  have e2 : ((2 : Int) ^ IntKind.i64.bits) = 18446744073709551616 := by decide
  have e3 : ((2 : Nat) ^ IntKind.i64.bits) = 18446744073709551616 := by decide
  have wi : ∀ x : Int, IntKind.i64.wrap x = wrap64 x := fun x => by rw [IntKind.wrap_i64]; unfold wrap64; omega
  rw [w64 (x := a0 / 2) (by omega) (by omega), w64 (x := a0 % 2) (by omega) (by omega), w64 (x := -(a0 % 2)) (by omega) (by omega)]
  by_cases h : a0 % 2 = 0
  · rw [if_pos h, h]
    have w0 : (-(0 : Int)) = 0 := rfl
    rw [w0, xor_zero, e2, wi, w64 (by omega) (by omega)]
    omega
  · have h' : a0 % 2 = 1 := by omega
    rw [if_neg h, h', xor_ones _ _ _ (by decide), e2, e3, wi]
    unfold wrap64
    omega
theorem zigR_eq (a0 : Int) (h0 : -9223372036854775808 ≤ a0) (h1 : a0 < 9223372036854775808) : Q1.secateurref01_Zig.f a0 = some (zigI a0) := by
  unfold Q1.secateurref01_Zig.f zigI
  by_cases h : 0 ≤ a0
  · rw [if_pos (show a0 ≥ 0 from h), if_pos h, wu64 h (by omega), wu64 (by omega) (by omega)]
    congr 1
    omega
  · rw [if_neg (show ¬ a0 ≥ 0 from h), if_neg h]
    congr 1
    rw [w64 (x := a0 + 1) (by omega) (by omega), w64 (x := -(a0 + 1)) (by omega) (by omega), wu64 (x := -(a0 + 1)) (by omega) (by omega), wu64 (x := -(a0 + 1) * 2) (by omega) (by omega), wu64 (by omega) (by omega)]
    omega
theorem zagR_eq (a0 : Int) (h0 : 0 ≤ a0) (h1 : a0 < 18446744073709551616) : Q1.secateurref01_Zag.f a0 = some (zagI a0) := by
  unfold Q1.secateurref01_Zag.f zagI
  have t1 : Int.tmod a0 2 = a0 % 2 := Int.tmod_eq_emod_of_nonneg h0
  have t2 : Int.tdiv a0 2 = a0 / 2 := Int.tdiv_eq_ediv_of_nonneg h0
  rw [t1, t2, wu64 (x := a0 / 2) (by omega) (by omega), w64 (x := a0 / 2) (by omega) (by omega), w64 (x := -(a0 / 2)) (by omega) (by omega), w64 (x := -(a0 / 2) - 1) (by omega) (by omega)]
  split <;> rfl

theorem leb_Zig.calls (a0 : Int) (r : Int) (w : World) (h : leb_Zig.f a0 = some r) :
    Calls Try.prog 15 #[.int .i64 a0] w fun e w' => e = .returned (.int .u64 r) ∧ Drawn0 w w' := by
  unfold leb_Zig.f at h
  split at h
  · rename_i hg
    exact Q1.leb_Zig.calls a0 r w ((zig_eq a0 hg.1 hg.2).trans h)
  · cases h
theorem leb_Zag.calls (a0 : Int) (r : Int) (w : World) (h : leb_Zag.f a0 = some r) :
    Calls Try.prog 17 #[.int .u64 a0] w fun e w' => e = .returned (.int .i64 r) ∧ Drawn0 w w' := by
  unfold leb_Zag.f at h
  split at h
  · rename_i hg
    exact Q1.leb_Zag.calls a0 r w ((zag_eq a0 hg.1 hg.2).trans h)
  · cases h
theorem secateurref01_Zig.calls (a0 : Int) (r : Int) (w : World) (h : secateurref01_Zig.f a0 = some r) :
    Calls Try.prog 16 #[.int .i64 a0] w fun e w' => e = .returned (.int .u64 r) ∧ Drawn0 w w' := by
  unfold secateurref01_Zig.f leb_Zig.f at h
  split at h
  · rename_i hg
    exact Q1.secateurref01_Zig.calls a0 r w ((zigR_eq a0 hg.1 hg.2).trans h)
  · cases h
theorem secateurref01_Zag.calls (a0 : Int) (r : Int) (w : World) (h : secateurref01_Zag.f a0 = some r) :
    Calls Try.prog 18 #[.int .u64 a0] w fun e w' => e = .returned (.int .i64 r) ∧ Drawn0 w w' := by
  unfold secateurref01_Zag.f leb_Zag.f at h
  split at h
  · rename_i hg
    exact Q1.secateurref01_Zag.calls a0 r w ((zagR_eq a0 hg.1 hg.2).trans h)
  · cases h
end Go.Proofs.Ytmdniighbddjnaa.Hand
