import Derived.Test.YtjlmliagkfjcgaaDoorQ3x1
import Derived.Test.YtjlmliagkfjcgaaDoorHOpen
namespace Go.Proofs.YtjlmliagkfjcgaaDoor.Hand
open Go.RowKit Go.Proofs.YtjlmliagkfjcgaaDoorW.PrintWords Go.Proofs.YtjlmliagkfjcgaaDoorW.PrintLast Go.Proofs.YtjlmliagkfjcgaaDoorW.PrintMore
set_option linter.unusedVariables false
set_option linter.unusedSimpArgs false

def secateurref02_Seal.f (l0 : List Int) : Option (List Int) := crc_Seal.f l0
def secateurref02_Open.f (l0 : List Int) : Option (List Int × Int) := crc_Open.f l0
theorem shr_u32 (s n : Int) (h : n.toNat ≤ 32) : shr .u32 s n = s / 2 ^ n.toNat := by
  show s / 2 ^ min n.toNat 32 = _
  rw [Nat.min_eq_left h]
theorem sealR_step (k : Nat) (x : List Int) (s i : Int) (h0 : 0 ≤ i) (h1 : i < 4) (hx : x.length < 140737488355328) : Q3.secateurref02_Seal.l0 (k + 1) x s i = Q3.secateurref02_Seal.l0 k (x ++ [s / 2 ^ (8 * i).toNat % 256]) s (i + 1) := by
  have e : IntKind.u64.wrap (wrap64 (8 * i)) = 8 * i := by
    rw [w64 (by omega) (by omega)]
    show (8 * i) % 18446744073709551616 = _
    omega
  rw [Q3.secateurref02_Seal.l0, e, if_pos h1, if_pos (by omega), if_pos hx, shr_u32 _ _ (by omega), w64 (by omega) (by omega)]
theorem sealR_eq (l : List Int) (hb : l.all byteB = true) (hl : l.length ≤ 70368744177664) : Q3.secateurref02_Seal.f 5 l = some (sealL l) := by
  unfold Q3.secateurref02_Seal.f
  have hs : secateurref02_Sum.f l = some (crcSum l) := by show crc_Sum.f l = _; unfold crc_Sum.f; rw [if_pos hb]
  rw [if_pos (by simp; omega), hs, Option.bind_some, List.nil_append, sealR_step _ _ _ _ (by omega) (by omega) (by omega), sealR_step _ _ _ _ (by omega) (by omega) (by simp; omega), sealR_step _ _ _ _ (by omega) (by omega) (by simp; omega), sealR_step _ _ _ _ (by omega) (by omega) (by simp; omega), Q3.secateurref02_Seal.l0, if_neg (by omega)]
  have hr := crcSum_range l
  simp [sealL, sumBytes]
  omega
theorem openR_step (k : Nat) (l : List Int) (n : Nat) (s : Int) (i : Nat) (h1 : i < 4) (hn : l.length = n + 4) (hl : l.length ≤ 70368744177664) : Q3.secateurref02_Open.l0 (k + 1) l n s i = if l.getD (n + i) 0 = s / 2 ^ (8 * i) % 256 then Q3.secateurref02_Open.l0 k l n s ((i + 1 : Nat) : Int) else some ([], 4) := by
  have e : IntKind.u64.wrap (wrap64 (8 * (i : Int))) = ((8 * i : Nat) : Int) := by
    rw [w64 (by omega) (by omega)]
    show (8 * (i : Int)) % 18446744073709551616 = _
    omega
  have e2 : wrap64 ((n : Int) + i) = ((n + i : Nat) : Int) := by rw [w64 (by omega) (by omega)]; push_cast; rfl
  rw [Q3.secateurref02_Open.l0, e, e2, if_pos (by omega), if_pos (by omega), if_pos (by omega), if_pos (by omega), shr_u32 _ _ (by omega), w64 (by omega) (by omega), rd_nat]
  rfl
theorem openR_eq (l : List Int) (hb : l.all byteB = true) (hl : l.length ≤ 70368744177664) : Q3.secateurref02_Open.f 5 l = some (openL l) := by
  unfold Q3.secateurref02_Open.f openL
  rw [w64 (by omega) (by omega)]
  by_cases h : l.length < 4
  · rw [if_pos (by omega), if_pos h]
  · obtain ⟨n, hn⟩ : ∃ n, l.length = n + 4 := ⟨l.length - 4, by omega⟩
    have e : (l.length : Int) - 4 = (n : Int) := by omega
    have e2 : l.length - 4 = n := by omega
    rw [if_neg (by omega), if_neg h, if_pos (by omega), if_pos (by omega), e, e2, Int.toNat_natCast]
    have hs : secateurref02_Sum.f (l.take n) = some (crcSum (l.take n)) := by
      show crc_Sum.f _ = _
      unfold crc_Sum.f
      rw [if_pos (List.all_eq_true.2 (fun x hx => List.all_eq_true.1 hb x (List.mem_of_mem_take hx)))]
    rw [hs, Option.bind_some]
    have hr := crcSum_range (l.take n)
    obtain ⟨s, hs⟩ : ∃ s, s = crcSum (l.take n) := ⟨_, rfl⟩
    rw [← hs] at hr ⊢
    have hd : l.drop n = [l.getD n 0, l.getD (n + 1) 0, l.getD (n + 2) 0, l.getD (n + 3) 0] := by
      rw [drop_cons l (i := n) (by omega), drop_cons l (i := n + 1) (by omega), drop_cons l (i := n + 2) (by omega), drop_cons l (i := n + 3) (by omega), List.drop_of_length_le (by omega)]
    rw [hd]
    have st := fun k i h1 => openR_step k l n s i h1 hn hl
    have s0 := st 4 0 (by omega)
    have s1 := st 3 1 (by omega)
    have s2 := st 2 2 (by omega)
    have s3 := st 1 3 (by omega)
    have s4 : Q3.secateurref02_Open.l0 1 l n s ((4 : Nat) : Int) = some (l.take n, 0) := by
      rw [Q3.secateurref02_Open.l0, if_neg (by omega), if_pos (by omega), if_pos (by omega), if_pos (by simp; omega), Int.toNat_natCast, List.nil_append]
    rw [s4] at s3
    rw [s3] at s2
    rw [s2] at s1
    rw [s1] at s0
    refine s0.trans ?_
    clear s0 s1 s2 s3 s4 st hd hs
    simp only [Nat.add_zero, sumBytes, List.cons.injEq, and_true]
    generalize l.getD n 0 = a
    generalize l.getD (n + 1) 0 = b
    generalize l.getD (n + 2) 0 = c
    generalize l.getD (n + 3) 0 = d
    have p0 : s / 2 ^ (8 * 0) % 256 = s % 256 := by show s / 1 % 256 = _; omega
    have p1 : s / 2 ^ (8 * 1) % 256 = s / 256 % 256 := rfl
    have p2 : s / 2 ^ (8 * 2) % 256 = s / 65536 % 256 := rfl
    have p3 : s / 2 ^ (8 * 3) % 256 = s / 16777216 := by show s / 16777216 % 256 = _; omega
    rw [p0, p1, p2, p3]
    by_cases q0 : a = s % 256
    · by_cases q1 : b = s / 256 % 256
      · by_cases q2 : c = s / 65536 % 256
        · by_cases q3 : d = s / 16777216
          · simp [q0, q1, q2, q3]
          · simp [q0, q1, q2, q3]
        · simp [q0, q1, q2]
      · simp [q0, q1]
    · simp [q0]
theorem secateurref02_Seal.calls (A0 : Option Addr) (c0 : Nat) (l0 : List Int) (r : List Int) (w : World) (hr0 : Kd.C (Kd.int .u8) w A0 l0.length l0) (hc0 : l0.length ≤ c0) (h : secateurref02_Seal.f l0 = some r) :
    Calls Tryd.prog 33 #[.slice A0 l0.length c0] w fun e w' => ∃ v0_ : Value, e = .returned (v0_) ∧ Kd.R (Kd.int .u8) 5 w' w.heap.size (fun _ => True) v0_ r ∧ Below w.heap.size w w' := by
  have h : crc_Seal.f l0 = some r := h
  unfold crc_Seal.f at h
  split at h
  · rename_i hg
    exact Q3.secateurref02_Seal.calls 5 A0 c0 l0 r w hr0 hc0 ((sealR_eq l0 hg.1 hg.2).trans h)
  · cases h
theorem secateurref02_Open.calls (A0 : Option Addr) (c0 : Nat) (l0 : List Int) (r1 : List Int) (r2 : Int) (w : World) (hr0 : Kd.C (Kd.int .u8) w A0 l0.length l0) (hc0 : l0.length ≤ c0) (h : secateurref02_Open.f l0 = some (r1, r2)) :
    Calls Tryd.prog 31 #[.slice A0 l0.length c0] w fun e w' => ∃ v0_ : Value, e = .returned (.tuple #[v0_, .int .i64 r2]) ∧ Kd.R (Kd.int .u8) 5 w' w.heap.size (fun _ => True) v0_ r1 ∧ Below w.heap.size w w' := by
  have h : crc_Open.f l0 = some (r1, r2) := h
  unfold crc_Open.f at h
  split at h
  · rename_i hg
    exact Q3.secateurref02_Open.calls 5 A0 c0 l0 r1 r2 w hr0 hc0 ((openR_eq l0 hg.1 hg.2).trans h)
  · cases h
end Go.Proofs.YtjlmliagkfjcgaaDoor.Hand
