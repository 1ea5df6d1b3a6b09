import Derived.Test.YtjlmliagkfjcgaaDoorHCrcB
import Derived.Test.YtjlmliagkfjcgaaDoorHClone
import Derived.Test.YtjlmliagkfjcgaaDoorHLib
namespace Go.Proofs.YtjlmliagkfjcgaaDoor.Hand
open Go.RowKit Go.Proofs.YtjlmliagkfjcgaaDoorW.PrintWords Go.Proofs.YtjlmliagkfjcgaaDoorW.PrintLast Go.Proofs.YtjlmliagkfjcgaaDoorW.PrintMore
set_option linter.unusedVariables false
set_option linter.unusedSimpArgs false

/-- A sum's bytes, the lowest first. -/
def sumBytes (s : Int) : List Int := [s % 256, s / 256 % 256, s / 65536 % 256, s / 16777216]
set_option maxHeartbeats 8000000 in
set_option maxRecDepth 100000 in
theorem crc_bytesOf.calls (s : Int) (h0 : 0 ≤ s) (h1 : s < 4294967296) (w : World) :
    Calls Tryd.prog 88 #[.int .u32 s] w fun e w' => e = .returned (.agg #[.int .u8 (s % 256), .int .u8 (s / 256 % 256), .int .u8 (s / 65536 % 256), .int .u8 (s / 16777216)]) ∧ Below w.heap.size w w' := by
  go_enter Tryd.func88, Tryd.ntmps88
  go_wp2
  exact bodyPost_ret (v := .agg #[.int .u8 (s % 256), .int .u8 (s / 256 % 256), .int .u8 (s / 65536 % 256), .int .u8 (s / 16777216)]) (by simp [results, Tryd.results88, go_sem]) rfl ⟨rfl, below_alloc (Below.refl _ _) _⟩

def sealL (l : List Int) : List Int := l ++ sumBytes (crcSum l)
def crc_Seal.f (l0 : List Int) : Option (List Int) := if l0.all byteB = true ∧ l0.length ≤ 70368744177664 then some (sealL l0) else none
theorem crcSum_range (l : List Int) : 0 ≤ crcSum l ∧ crcSum l < 4294967296 := b32_range _
set_option maxHeartbeats 8000000 in
set_option maxRecDepth 100000 in
theorem crc_Seal.calls (A0 : Option Addr) (c0 : Nat) (l0 : List Int) (r : List Int) (w : World) (hr0 : Kd.C (Kd.int .u8) w A0 l0.length l0) (hc0 : l0.length ≤ c0) (hGCrcTab : CrcTab w) (h : crc_Seal.f l0 = some r) :
    Calls Tryd.prog 30 #[.slice A0 l0.length c0] w fun e w' => ∃ v0_ : Value, e = .returned (v0_) ∧ Kd.R (Kd.int .u8) 5 w' w.heap.size (fun _ => True) v0_ r ∧ Below w.heap.size w w' := by
  unfold crc_Seal.f at h
  split at h
  · rename_i hg
    obtain ⟨hb, hl⟩ := hg
    obtain rfl := Option.some.inj h
    clear h
    have hsr := crcSum_range l0
    obtain ⟨s, hs⟩ : ∃ s, s = crcSum l0 := ⟨_, rfl⟩
    have hsum : crc_Sum.f l0 = some s := by unfold crc_Sum.f; rw [if_pos hb, hs]
    have HC := Aside0.mk (crc_Sum.calls A0 c0 l0 s w hr0 hc0 hGCrcTab hsum)
    have HS := Lib.hid hs
    rw [← hs] at hsr
    have HR := Aside0.mk hr0
    clear hr0 hsum hs hGCrcTab hb
    obtain ⟨hs0, hs1⟩ := hsr
    obtain ⟨i0, hi0, hz0, hz1, hz2⟩ := info_parts leb_info
    go_enter Tryd.func30, Tryd.ntmps30
    go_wp2_with fail
    refine HC.out.mono ?_
    rintro e w1 ⟨rfl, hd⟩
    have HB1 := Aside0.mk hd.below
    clear hd
    go_wp2_with fail
    refine (crc_bytesOf.calls s hs0 hs1 _).mono ?_
    rintro e w2 ⟨rfl, hb2⟩
    have HB2 := Aside0.mk (below_step HB1.out hb2)
    clear hb2
    go_wp2_with fail
    refine start_ (n := 9) (S := fun w' => True) (ds := []) #[false, false, false, false, false, false, false, false, false] (by kernel_rfl) rfl rfl trivial (fun hHeld => ?_)
    refine pure_ (i := 0) (N := some 7) (v := ?_) (a' := ?_) #[true, false, false, false, false, false, false, false, false] rfl rfl (by kernel_rfl) (fun _ _ _ h => h) (Or.inl ⟨by rfl, ?_⟩) ?_ ?_
    rotate_left
    · intro w'
      go_simp
      with_reducible rfl
    rotate_left
    · simp only [Act.put, List.setIfInBounds_toArray, List.set_cons_zero, List.set_cons_succ, i64_w, i32_w]
      rfl
    refine pure_ (i := 1) (N := some 8) (v := ?_) (a' := ?_) #[true, true, false, false, false, false, false, false, false] rfl rfl (by kernel_rfl) (fun _ _ _ h => h) (Or.inl ⟨by rfl, ?_⟩) ?_ ?_
    rotate_left
    · intro w'
      go_simp
      with_reducible rfl
    rotate_left
    · simp only [Act.put, List.setIfInBounds_toArray, List.set_cons_zero, List.set_cons_succ, i64_w, i32_w]
      rfl
    refine pure_ (i := 2) (N := some 9) (v := ?_) (a' := ?_) #[true, true, true, false, false, false, false, false, false] rfl rfl (by kernel_rfl) (fun _ _ _ h => h) (Or.inl ⟨by rfl, ?_⟩) ?_ ?_
    rotate_left
    · intro w'
      go_simp
      with_reducible rfl
    rotate_left
    · simp only [Act.put, List.setIfInBounds_toArray, List.set_cons_zero, List.set_cons_succ, i64_w, i32_w]
      rfl
    refine pure_ (i := 4) (N := some 11) (v := ?_) (a' := ?_) #[true, true, true, false, true, false, false, false, false] rfl rfl (by kernel_rfl) (fun _ _ _ h => h) (Or.inl ⟨by rfl, ?_⟩) ?_ ?_
    rotate_left
    · intro w'
      go_simp
      with_reducible rfl
    rotate_left
    · simp only [Act.put, List.setIfInBounds_toArray, List.set_cons_zero, List.set_cons_succ, i64_w, i32_w]
      rfl
    refine pure_ (i := 6) (N := some 13) (v := ?_) (a' := ?_) #[true, true, true, false, true, false, true, false, false] rfl rfl (by kernel_rfl) (fun _ _ _ h => h) (Or.inl ⟨by rfl, ?_⟩) ?_ ?_
    rotate_left
    · intro w'
      go_simp
      with_reducible rfl
    rotate_left
    · simp only [Act.put, List.setIfInBounds_toArray, List.set_cons_zero, List.set_cons_succ, i64_w, i32_w]
      rfl
    refine one_ (i := 3) (N := some 10) #[true, true, true, true, true, false, true, false, false] rfl rfl (by kernel_rfl) (by decide) (fun K hK => ?_)
    refine make0_step (k := .u8) (w0 := w) w.heap.size 5 (by rfl) 23 _ _ rfl (l0.length + 4) rfl (by simp [Act.eval, Act.put]; unfold wrap64; omega) Tryd.underlying23 (.int .u8 0) 1 leb_info (by omega) (by unfold maxLen; omega) (by repeat (first | (with_reducible first | exact HB2.out | apply below_alloc | apply pw_below_drewN | apply below_drew1) | exact HB2.out)) (below_size (by repeat (first | (with_reducible first | exact HB2.out | apply below_alloc | apply pw_below_drewN | apply below_drew1) | exact HB2.out))) ?_
    intro v3 w3 ho hb hg hat
    have HO3 := Aside0.mk ho
    have HB3 := Aside0.mk hb
    have HQ3 := Aside0.mk (blk_grown (blk_drew (blk_new w2 _)) hg (by simp))
    obtain ⟨b3, hat1, hat2⟩ := hat
    have HA3 := Aside0.mk hat1
    have HL3 : w2.heap.size < b3 := by simp at hat2; omega
    clear ho hb hg hat1 hat2
    refine hK.out _ _ (trivial) (fun hHeld => ?_)
    clear hK K
    refine norm_ (a' := ?_) ?_ ?_
    rotate_left
    · show Act.put _ (some 10) _ = _
      simp only [Act.put, List.setIfInBounds_toArray, List.set_cons_zero, List.set_cons_succ, i64_w, i32_w]
      rfl
    refine one_ (i := 5) (N := some 12) #[true, true, true, true, true, true, true, false, false] rfl rfl (by kernel_rfl) (by decide) (fun K hK => ?_)
    refine Kd.R_append_rows_step (Kd.int .u8) (w0 := w) w.heap.size (by rfl) _ _ 23 5 (.int .u8 0) 1 rfl Tryd.underlying23 leb_info rfl (by decide) (by omega) v3 ([] : List Int) l0 _ _ _ (fun _ => True) (fun _ => False) rfl rfl HO3.out (Kd.C_below HR.out HB3.out) (fun _ _ h => h) (fun _ h => h.elim) (fun _ _ => trivial) HB3.out HB3.out.size (by show (0 + l0.length) * 1 ≤ _; omega) ?_
    intro v4 w4 ho hb hg hat
    have HO4 := Aside0.mk ho
    have HB4 := Aside0.mk hb
    have HQ4 := Aside0.mk (blk_grown HQ3.out hg (by rw [HA3.out]; simp; omega))
    clear ho hb hg hat
    refine hK.out _ _ (trivial) (fun hHeld => ?_)
    clear hK K
    refine norm_ (a' := ?_) ?_ ?_
    rotate_left
    · show Act.put _ (some 12) _ = _
      simp only [Act.put, List.setIfInBounds_toArray, List.set_cons_zero, List.set_cons_succ, i64_w, i32_w]
      rfl
    refine one_ (i := 7) (N := some 14) #[true, true, true, true, true, true, true, true, false] rfl rfl (by kernel_rfl) (by decide) (fun K hK => ?_)
    refine Kd.R_append_rows_step (Kd.int .u8) (w0 := w) w.heap.size (by rfl) _ _ 23 5 (.int .u8 0) 1 rfl Tryd.underlying23 leb_info rfl (by decide) (by omega) v4 ([] ++ l0) (sumBytes s) _ _ _ (fun _ => True) (fun _ => False) rfl rfl HO4.out (C_of_blk (cs := sumBytes s) HQ4.out (by simp [sumBytes])) (fun _ _ h => h) (fun _ h => h.elim) (fun _ _ => trivial) HB4.out HB4.out.size (by rw [List.nil_append]; omega) ?_
    intro v5 w5 ho hb hg hat
    have HO5 := Aside0.mk ho
    have HB5 := Aside0.mk hb
    clear ho hb hg hat
    refine hK.out _ _ (trivial) (fun hHeld => ?_)
    clear hK K
    refine norm_ (a' := ?_) ?_ ?_
    rotate_left
    · show Act.put _ (some 14) _ = _
      simp only [Act.put, List.setIfInBounds_toArray, List.set_cons_zero, List.set_cons_succ, i64_w, i32_w]
      rfl
    refine pure_ (i := 8) (N := some 2) (v := ?_) (a' := ?_) #[true, true, true, true, true, true, true, true, true] rfl rfl (by kernel_rfl) (fun _ _ _ h => h) (Or.inl ⟨by rfl, ?_⟩) ?_ ?_
    rotate_left
    · intro w'
      go_simp
      with_reducible rfl
    rotate_left
    · simp only [Act.put, List.setIfInBounds_toArray, List.set_cons_zero, List.set_cons_succ, i64_w, i32_w]
      rfl
    refine done_ (by kernel_rfl) ?_

    go_wp2
    go_ret
    refine ⟨_, rfl, ?_, HB5.out⟩
    have h5 := HO5.out
    rw [HS.out, List.nil_append] at h5
    exact h5
  · cases h
end Go.Proofs.YtjlmliagkfjcgaaDoor.Hand
