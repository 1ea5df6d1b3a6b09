import Derived.Test.YtjlmliagkfjcgaaDoorQ2x1
import Derived.Test.YtjlmliagkfjcgaaDoorHCrc
namespace Go.Proofs.YtjlmliagkfjcgaaDoor.Hand
open Go.RowKit Go.Proofs.YtjlmliagkfjcgaaDoorW.PrintWords Go.Proofs.YtjlmliagkfjcgaaDoorW.PrintLast Go.Proofs.YtjlmliagkfjcgaaDoorW.PrintMore
set_option linter.unusedVariables false
set_option linter.unusedSimpArgs false

def u32B (x : Int) : Bool := decide (0 ≤ x) && decide (x < 4294967296)
theorem u32B_iff {x : Int} : u32B x = true ↔ 0 ≤ x ∧ x < 4294967296 := by simp [u32B]
theorem u32B_of (s : B32) : u32B (s.toNat : Int) = true := u32B_iff.2 (b32_range s)
def crc_Begin.f : Option Int := some 4294967295
def crc_End.f (a0 : Int) : Option Int := if u32B a0 = true then some ((~~~ BitVec.ofInt 32 a0).toNat : Int) else none
def crc_Add.f (a0 : Int) (l1 : List Int) : Option Int := if u32B a0 = true ∧ l1.all byteB = true then some ((crcAdd (BitVec.ofInt 32 a0) l1).toNat : Int) else none
def crc_Sum.f (l0 : List Int) : Option Int := if l0.all byteB = true then some (crcSum l0) else none
def secateurref02_Add.f (a0 : Int) (l1 : List Int) : Option Int := crc_Add.f a0 l1
def secateurref02_Sum.f (l0 : List Int) : Option Int := crc_Sum.f l0

theorem half_some (s : B32) : crc_half.f (s.toNat : Int) = some ((bit4 s).toNat : Int) := by
  unfold crc_half.f
  rw [if_pos (b32_range s), b32_of]
theorem u32_xor_byte (s : B32) (x : Int) (hx : byteB x = true) : Go.bits .xor .u32 (s.toNat : Int) (x % 4294967296) = ((s ^^^ BitVec.ofInt 32 x).toNat : Int) := by
  have h := byteB_iff.1 hx
  have e : x % 4294967296 = x := by omega
  rw [e, u32_xor, b32_of]
theorem add_loop (l : List Int) (hb : l.all byteB = true) (hm : l.length ≤ 9223372036854775807) (d : Nat) : ∀ (k i : Nat) (s : B32), l.length - i = d → i ≤ l.length → d < k → Q2.crc_Add.l0 k (s.toNat : Int) l l.length i = some ((crcAdd s (l.drop i)).toNat : Int) := by
  induction d with
  | zero =>
    intro k i s hd hi hk
    obtain ⟨k, rfl⟩ : ∃ m, k = m + 1 := ⟨k - 1, by omega⟩
    rw [Q2.crc_Add.l0, if_neg (by omega), List.drop_of_length_le (by omega)]
    rfl
  | succ d ih =>
    intro k i s hd hi hk
    obtain ⟨k, rfl⟩ : ∃ m, k = m + 1 := ⟨k - 1, by omega⟩
    rw [Q2.crc_Add.l0, if_pos (by omega), if_pos (by omega), if_pos (by omega), rd_nat, u32_xor_byte s _ (all_getD hb (by omega)), half_some, Option.bind_some, half_some, Option.bind_some, w64 (by omega) (by omega)]
    have ih := ih k (i + 1) (bit4 (bit4 (s ^^^ BitVec.ofInt 32 (l.getD i 0)))) (by omega) (by omega) (by omega)
    push_cast at ih
    rw [ih, drop_cons l (i := i) (by omega)]
    rfl
theorem add_eq (a0 : Int) (l : List Int) (h0 : u32B a0 = true) (hb : l.all byteB = true) (hm : l.length ≤ 9223372036854775807) : Q2.crc_Add.f (l.length + 1) a0 l = some ((crcAdd (BitVec.ofInt 32 a0) l).toNat : Int) := by
  have h := u32B_iff.1 h0
  have := add_loop l hb hm _ (l.length + 1) 0 (BitVec.ofInt 32 a0) rfl (by omega) (by omega)
  rw [toNat_of h.1 h.2] at this
  exact this
theorem end_eq (a0 : Int) (h0 : u32B a0 = true) : Q2.crc_End.f a0 = some ((~~~ BitVec.ofInt 32 a0).toNat : Int) := by
  unfold Q2.crc_End.f
  rw [u32_xor]
  have e : BitVec.ofInt 32 4294967295 = BitVec.allOnes 32 := by decide
  rw [e, BitVec.xor_allOnes]
theorem sum_eq (l : List Int) (hb : l.all byteB = true) (hm : l.length ≤ 9223372036854775807) : Q2.crc_Sum.f (l.length + 1) l = some (crcSum l) := by
  unfold Q2.crc_Sum.f Q2.crc_Begin.f
  rw [Option.bind_some, add_eq 4294967295 l (by decide) hb hm, Option.bind_some, end_eq _ (u32B_of _), Option.bind_some, b32_of]
  have e : BitVec.ofInt 32 4294967295 = BitVec.allOnes 32 := by decide
  rw [e]
  rfl
theorem lsb_odd (s : B32) : s.getLsbD 0 = decide (s.toNat % 2 = 1) := by
  show s.toNat.testBit 0 = _
  exact Nat.testBit_zero _
theorem bit1_val (s : B32) : (if Int.tmod (s.toNat : Int) 2 = 1 then Go.bits .xor .u32 (Int.tdiv (s.toNat : Int) 2 % 4294967296) 3988292384 else Int.tdiv (s.toNat : Int) 2 % 4294967296) = ((bit1 s).toNat : Int) := by
  have hs := b32_range s
  have e1 : Int.tmod (s.toNat : Int) 2 = (s.toNat : Int) % 2 := Int.tmod_eq_emod_of_nonneg hs.1
  have e2 : Int.tdiv (s.toNat : Int) 2 = (s.toNat : Int) / 2 := Int.tdiv_eq_ediv_of_nonneg hs.1
  have e3 : ((s.toNat : Int) / (2 : Int)) % (4294967296 : Int) = ((s >>> 1).toNat : Int) := by
    rw [BitVec.toNat_ushiftRight, Nat.shiftRight_eq_div_pow]
    omega
  rw [e1, e2, e3]
  unfold bit1
  rw [lsb_odd]
  by_cases h : s.toNat % 2 = 1
  · rw [if_pos (by omega), decide_eq_true h, if_pos rfl, u32_xor, b32_of]
    have e : BitVec.ofInt 32 3988292384 = 0xEDB88320#32 := by decide
    rw [e]
  · rw [if_neg (by omega), decide_eq_false h]
    simp
def bitN : Nat → B32 → B32
  | 0, s => s
  | n + 1, s => bitN n (bit1 s)
theorem step_loop (d : Nat) : ∀ (k i : Nat) (s : B32), 8 - i = d → i ≤ 8 → d < k → Q2.secateurref02_step.l0 k (s.toNat : Int) i = some ((bitN d s).toNat : Int) := by
  induction d with
  | zero =>
    intro k i s hd hi hk
    obtain ⟨k, rfl⟩ : ∃ m, k = m + 1 := ⟨k - 1, by omega⟩
    rw [Q2.secateurref02_step.l0, if_neg (by omega)]
    rfl
  | succ d ih =>
    intro k i s hd hi hk
    obtain ⟨k, rfl⟩ : ∃ m, k = m + 1 := ⟨k - 1, by omega⟩
    have ih := ih k (i + 1) (bit1 s) (by omega) (by omega) (by omega)
    push_cast at ih
    have hv := bit1_val s
    rw [Q2.secateurref02_step.l0, if_pos (by omega), w64 (by omega) (by omega)]
    by_cases h : Int.tmod (s.toNat : Int) 2 = 1
    · rw [if_pos h] at hv ⊢
      rw [hv, ih]
      rfl
    · rw [if_neg h] at hv ⊢
      rw [hv, ih]
      rfl
theorem step_eq (s : B32) (x : Int) (hx : byteB x = true) (j : Nat) : Q2.secateurref02_step.f (j + 9) (s.toNat : Int) x = some ((bit8 (s ^^^ BitVec.ofInt 32 x)).toNat : Int) := by
  unfold Q2.secateurref02_step.f
  rw [u32_xor_byte s x hx]
  exact step_loop 8 (j + 9) 0 _ rfl (by omega) (by omega)
theorem addR_loop (l : List Int) (hb : l.all byteB = true) (hm : l.length ≤ 9223372036854775807) (d : Nat) : ∀ (i : Nat) (s : B32), l.length - i = d → i ≤ l.length → Q2.secateurref02_Add.l0 (d + 10) (s.toNat : Int) l i = some ((crcAdd s (l.drop i)).toNat : Int) := by
  induction d with
  | zero =>
    intro i s hd hi
    rw [Q2.secateurref02_Add.l0, if_neg (by omega), List.drop_of_length_le (by omega)]
    rfl
  | succ d ih =>
    intro i s hd hi
    rw [show d + 1 + 10 = (d + 1 + 9) + 1 from by omega, Q2.secateurref02_Add.l0, if_pos (by omega), if_pos (by omega), rd_nat, step_eq s _ (all_getD hb (by omega)), Option.bind_some, w64 (by omega) (by omega)]
    have ih := ih (i + 1) (bit8 (s ^^^ BitVec.ofInt 32 (l.getD i 0))) (by omega) (by omega)
    push_cast at ih
    rw [show d + 1 + 9 = d + 10 from by omega, ih, drop_cons l (i := i) (by omega)]
    rfl
theorem addR_eq (a0 : Int) (l : List Int) (h0 : u32B a0 = true) (hb : l.all byteB = true) (hm : l.length ≤ 9223372036854775807) : Q2.secateurref02_Add.f (l.length + 10) a0 l = some ((crcAdd (BitVec.ofInt 32 a0) l).toNat : Int) := by
  have h := u32B_iff.1 h0
  have := addR_loop l hb hm l.length 0 (BitVec.ofInt 32 a0) rfl (by omega)
  rw [toNat_of h.1 h.2] at this
  exact this

theorem crc_Begin.calls (r : Int) (w : World) (h : crc_Begin.f = some r) :
    Calls Tryd.prog 28 #[] w fun e w' => e = .returned (.int .u32 r) ∧ Drawn0 w w' := Q2.crc_Begin.calls r w h
theorem crc_End.calls (a0 : Int) (r : Int) (w : World) (h : crc_End.f a0 = some r) :
    Calls Tryd.prog 27 #[.int .u32 a0] w fun e w' => e = .returned (.int .u32 r) ∧ Drawn0 w w' := by
  unfold crc_End.f at h
  split at h
  · rename_i hg
    exact Q2.crc_End.calls a0 r w ((end_eq a0 hg).trans h)
  · cases h
theorem crc_Add.calls (a0 : Int) (A1 : Option Addr) (c1 : Nat) (l1 : List Int) (r : Int) (w : World) (hr1 : Kd.C (Kd.int .u8) w A1 l1.length l1) (hc1 : l1.length ≤ c1) (hGCrcTab : CrcTab w) (h : crc_Add.f a0 l1 = some r) :
    Calls Tryd.prog 25 #[.int .u32 a0, .slice A1 l1.length c1] w fun e w' => e = .returned (.int .u32 r) ∧ Drawn0 w w' := by
  unfold crc_Add.f at h
  split at h
  · rename_i hg
    exact Q2.crc_Add.calls _ a0 A1 c1 l1 r w hr1 hc1 hGCrcTab ((add_eq a0 l1 hg.1 hg.2 (len_of_C hr1)).trans h)
  · cases h
theorem crc_Sum.calls (A0 : Option Addr) (c0 : Nat) (l0 : List Int) (r : Int) (w : World) (hr0 : Kd.C (Kd.int .u8) w A0 l0.length l0) (hc0 : l0.length ≤ c0) (hGCrcTab : CrcTab w) (h : crc_Sum.f l0 = some r) :
    Calls Tryd.prog 23 #[.slice A0 l0.length c0] w fun e w' => e = .returned (.int .u32 r) ∧ Drawn0 w w' := by
  unfold crc_Sum.f at h
  split at h
  · rename_i hg
    exact Q2.crc_Sum.calls _ A0 c0 l0 r w hr0 hc0 hGCrcTab ((sum_eq l0 hg (len_of_C hr0)).trans h)
  · cases h
theorem secateurref02_Add.calls (a0 : Int) (A1 : Option Addr) (c1 : Nat) (l1 : List Int) (r : Int) (w : World) (hr1 : Kd.C (Kd.int .u8) w A1 l1.length l1) (hc1 : l1.length ≤ c1) (h : secateurref02_Add.f a0 l1 = some r) :
    Calls Tryd.prog 26 #[.int .u32 a0, .slice A1 l1.length c1] w fun e w' => e = .returned (.int .u32 r) ∧ Drawn0 w w' := by
  unfold secateurref02_Add.f crc_Add.f at h
  split at h
  · rename_i hg
    exact Q2.secateurref02_Add.calls _ a0 A1 c1 l1 r w hr1 hc1 ((addR_eq a0 l1 hg.1 hg.2 (len_of_C hr1)).trans h)
  · cases h
set_option maxHeartbeats 8000000 in
set_option maxRecDepth 100000 in
theorem secateurref02_Sum.calls (A0 : Option Addr) (c0 : Nat) (l0 : List Int) (r : Int) (w : World) (hr0 : Kd.C (Kd.int .u8) w A0 l0.length l0) (hc0 : l0.length ≤ c0) (h : secateurref02_Sum.f l0 = some r) :
    Calls Tryd.prog 24 #[.slice A0 l0.length c0] w fun e w' => e = .returned (.int .u32 r) ∧ Drawn0 w w' := by
  unfold secateurref02_Sum.f crc_Sum.f at h
  split at h
  · rename_i hg
    have h := Option.some.inj h
    have hA : secateurref02_Add.f 4294967295 l0 = some ((crcAdd (BitVec.allOnes 32) l0).toNat : Int) := by
      unfold secateurref02_Add.f crc_Add.f
      rw [if_pos ⟨by decide, hg⟩]
      rfl
    have HC := Aside0.mk (secateurref02_Add.calls 4294967295 A0 c0 l0 _ w hr0 hc0 hA)
    have HH := Lib.hid h
    clear hr0 hA h
    obtain ⟨s, hs⟩ : ∃ s, s = crcAdd (BitVec.allOnes 32) l0 := ⟨_, rfl⟩
    unfold crcSum at HH
    rw [← hs] at HC HH
    clear hs
    go_enter Tryd.func24, Tryd.ntmps24
    go_wp2_with fail
    refine HC.out.mono ?_
    rintro e w' ⟨rfl, hd⟩
    have HD := Aside0.mk hd
    clear hd
    have hsg : IntKind.u32.signed = false := rfl
    go_wp2_with fail
    go_ret
    refine ⟨?_, HD.out⟩
    have e : BitVec.ofInt 32 IntKind.u32.max = BitVec.allOnes 32 := by decide
    have hx : Go.bits .xor .u32 IntKind.u32.max (s.toNat : Int) = r := by
      rw [u32_xor, b32_of, e, BitVec.allOnes_xor, ← HH.out]
    rw [hx]
    rfl
  · cases h
end Go.Proofs.YtjlmliagkfjcgaaDoor.Hand
