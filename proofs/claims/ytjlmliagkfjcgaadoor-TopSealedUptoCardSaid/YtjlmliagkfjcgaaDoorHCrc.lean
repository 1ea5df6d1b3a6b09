import Derived.Test.YtjlmliagkfjcgaaDoorHCrcM
namespace Go.Proofs.YtjlmliagkfjcgaaDoor.Hand
open Go.RowKit Go.Proofs.YtjlmliagkfjcgaaDoorW.PrintWords Go.Proofs.YtjlmliagkfjcgaaDoorW.PrintLast Go.Proofs.YtjlmliagkfjcgaaDoorW.PrintMore
set_option linter.unusedVariables false
set_option linter.unusedSimpArgs false

/-- The table stands in the world as the text lays it. -/
def CrcTab (w : World) : Prop := ∀ i : Nat, i < 16 → w.cell? ⟨0, i, none⟩ = some (.int .u32 (crcFour.getD i 0))
theorem CrcTab.below {w w' : World} (h : CrcTab w) (hb : Below w.heap.size w w') : CrcTab w' := fun i hi => pw_cell_below hb (h i hi)
theorem CrcTab.drawn {w w' : World} (h : CrcTab w) (hd : Drawn0 w w') : CrcTab w' := h.below hd.below

theorem wu32 {x : Int} (h0 : 0 ≤ x) (h1 : x < 4294967296) : IntKind.u32.wrap x = x := by
  simp [IntKind.wrap, IntKind.bits, IntKind.signed]
  omega
theorem p32 : (2 : Int) ^ 32 = 4294967296 := by decide
theorem b32_range (s : B32) : 0 ≤ (s.toNat : Int) ∧ (s.toNat : Int) < 4294967296 := by
  have := s.isLt
  omega
theorem b32_of (s : B32) : BitVec.ofInt 32 (s.toNat : Int) = s := by simp
theorem toNat_of {a : Int} (h0 : 0 ≤ a) (h1 : a < 4294967296) : ((BitVec.ofInt 32 a).toNat : Int) = a := by
  rw [BitVec.toNat_ofInt]
  have : ((2 ^ 32 : Nat) : Int) = 4294967296 := by decide
  rw [this]
  omega
theorem u32_xor {a b : Int} : Go.bits .xor .u32 a b = ((BitVec.ofInt 32 a ^^^ BitVec.ofInt 32 b).toNat : Int) := by
  show IntKind.u32.wrap _ = _
  exact wu32 (b32_range _).1 (b32_range _).2
theorem u32_and15 {a : Int} (h0 : 0 ≤ a) (h1 : a < 4294967296) : Go.bits .and .u32 a 15 = a % 16 := by
  have := Go.bits_mask .u32 32 (by decide) (fun n h0 h1 => wu32 h0 (by rw [p32] at h1; exact h1)) 4 (by decide) a h0 (by rw [p32]; exact h1)
  exact this
def crc_half.f (a0 : Int) : Option Int := if 0 ≤ a0 ∧ a0 < 4294967296 then some ((bit4 (BitVec.ofInt 32 a0)).toNat : Int) else none
theorem half_val {a : Int} (h0 : 0 ≤ a) (h1 : a < 4294967296) (i : Nat) (hi : (i : Int) = a % 16) : Go.bits .xor .u32 (a / 16) (crcFour.getD i 0) = ((bit4 (BitVec.ofInt 32 a)).toNat : Int) := by
  have hlt : i < 16 := by omega
  rw [u32_xor, crcFour_eq ⟨i, hlt⟩, bit4_split (BitVec.ofInt 32 a)]
  have e1 : BitVec.ofInt 32 (a / 16) = BitVec.ofInt 32 a >>> 4 := by
    apply BitVec.eq_of_toNat_eq
    rw [BitVec.toNat_ushiftRight, Nat.shiftRight_eq_div_pow]
    have e2 := toNat_of h0 h1
    have e3 := toNat_of (a := a / 16) (by omega) (by omega)
    omega
  have e2 : BitVec.ofNat 32 i = BitVec.ofInt 32 a &&& 15#32 := by
    apply BitVec.eq_of_toNat_eq
    rw [BitVec.toNat_and, BitVec.toNat_ofNat]
    have e2 := toNat_of h0 h1
    have e4 : (15#32).toNat = 2 ^ 4 - 1 := by decide
    rw [e4, Nat.and_two_pow_sub_one_eq_mod]
    omega
  rw [e1, e2]
set_option maxHeartbeats 8000000 in
set_option maxRecDepth 100000 in
theorem crc_half.calls (a0 : Int) (r : Int) (w : World) (hGCrcTab : CrcTab w) (h : crc_half.f a0 = some r) :
    Calls Tryd.prog 86 #[.int .u32 a0] w fun e w' => e = .returned (.int .u32 r) ∧ Drawn0 w w' := by
  unfold crc_half.f at h
  split at h
  · rename_i hg
    obtain ⟨h0, h1⟩ := hg
    obtain ⟨i, hi⟩ := Int.eq_ofNat_of_zero_le (show 0 ≤ a0 % 16 by omega)
    have hlt : i < 16 := by omega
    have hc := hGCrcTab i hlt
    have ha : Go.bits .and .u32 a0 15 = (i : Int) := (u32_and15 h0 h1).trans hi
    have HV := Lib.hid ((half_val h0 h1 i hi.symm).trans (Option.some.inj h))
    obtain ⟨t, ht⟩ : ∃ t, t = crcFour.getD i 0 := ⟨_, rfl⟩
    rw [← ht] at HV hc
    clear ht
    have hal : Tryd.prog.arrayLen 143 = 16 := by kernel_rfl
    clear hGCrcTab h
    have HI := Lib.hid hi
    clear hi
    have hir : (i : Int) < 16 := by omega
    go_enter Tryd.func86, Tryd.ntmps86
    go_wp2
    go_ret
    exact ⟨by rw [HV.out]; rfl, Drawn0.refl _⟩
  · cases h
end Go.Proofs.YtjlmliagkfjcgaaDoor.Hand
