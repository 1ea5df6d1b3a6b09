import Derived.Test.YtjlmliagkfjcgaaDoorHTake
namespace Go.Proofs.YtjlmliagkfjcgaaDoor.Hand
open Go.RowKit Go.Proofs.YtjlmliagkfjcgaaDoorW.PrintWords Go.Proofs.YtjlmliagkfjcgaaDoorW.PrintLast Go.Proofs.YtjlmliagkfjcgaaDoorW.PrintMore
set_option linter.unusedVariables false
set_option linter.unusedSimpArgs false

def secateurref01_Put.f (a0 : Int) : Option (List Int) := leb_Put.f a0

def putRRel (n : Int) (w : World) (v0 v3 : Value) (wr : World) : Prop :=
  ∃ (m : Int) (xs : List Int) (f : Nat), v0 = .int .u64 m ∧ 0 ≤ m ∧ m < 18446744073709551616 ∧ Aside0 (f ≤ 10 ∧ m < 128 ^ f ∧ xs ++ lebTail f m = lebPut n ∧ 0 < f) ∧ Aside0 (xs.length ≤ 10 - f) ∧ Aside0 (Kd.R (Kd.int .u8) 5 wr w.heap.size (fun _ => True) v3 xs) ∧ Aside0 (Below w.heap.size w wr)

set_option maxHeartbeats 8000000 in
set_option maxRecDepth 100000 in
theorem secateurref01_Put.calls (a0 : Int) (r : List Int) (w : World) (h : secateurref01_Put.f a0 = some r) :
    Calls Tryd.prog 42 #[.int .u64 a0] w fun e w' => ∃ v0_ : Value, e = .returned (v0_) ∧ Kd.R (Kd.int .u8) 5 w' w.heap.size (fun _ => True) v0_ r ∧ Below w.heap.size w w' := by
  obtain ⟨h0, h1, rfl⟩ := leb_Put_some h
  clear h
  go_enter Tryd.func42, Tryd.ntmps42
  go_wp2
  go_loopw [0, 3] (fun v0 v3 wr => putRRel a0 w v0 v3 wr) (fun v0 _ _ => (intOf v0).toNat)
  case atStart =>
    exact ⟨a0, [], 10, rfl, h0, h1, ⟨by omega, by have : (128 : Int) ^ 10 = 1180591620717411303424 := by decide
                                                  omega, rfl, by omega⟩, ⟨by simp⟩, ⟨Kd.R_nil _ _ _ _ _⟩, ⟨Below.refl _ _⟩⟩
  case round =>
    obtain ⟨m, xs, f, rfl, hm0, hm1, HF, HL, HO, HB⟩ := hrel
    clear h0 h1
    by_cases hge : 128 ≤ m
    · have hc : decide (128 ≤ m) = true := decide_eq_true hge
      have HQ := Lib.hid (show m / 128 ≠ 0 by omega)
      go_wp2_with (first | (at_builtin; refine Kd.R_append (Kd.int .u8) (w0 := w) w.heap.size rfl (.tmp 6) (.tmp 11) 23 5 (.int .u8 0) 1 rfl Tryd.underlying23 leb_info rfl (by decide) (by omega) u3 xs (m % 128 + 128) [.int .u8 (m % 128 + 128)] (fun _ => True) (fun _ => False) rfl rfl ?aP (fun _ hk => hk.elim) ?aF ?aO ?aB ?aS ?aL ?_; (case aP => exact rfl); (case aB => exact (by repeat (first | (with_reducible first | exact HB.out | apply below_alloc | apply pw_below_drewN | apply below_drew1) | exact HB.out))); (case aF => exact (fun _ _ => trivial)); (case aO => exact (by (with_reducible repeat (first | apply Kd.R_alloc | apply Kd.R_drewN | apply Kd.R_drew)); exact HO.out)); (case aS => exact (below_size (by repeat (first | (with_reducible first | exact HB.out | apply below_alloc | apply pw_below_drewN | apply below_drew1) | exact HB.out)))); (case aL => have := HL.out; omega); intro v1 w4 ho hb hg hat; have HB2 := Aside0.mk hb; have HO2 := Aside0.mk ho; clear ho hb hg hat))
      go_roundw
      case measure => simp [intOf]; omega
      case rel =>
        obtain ⟨hf1, hf2, hf3, hf4⟩ := HF.out
        obtain ⟨f, rfl⟩ : ∃ g, f = g + 1 := ⟨f - 1, by omega⟩
        have hl := HL.out
        have hq := HQ.out
        have hf : 0 < f := by
          rcases Nat.eq_zero_or_pos f with h | h
          · subst h; simp at hf2; omega
          · exact h
        refine ⟨m / 128, xs ++ [m % 128 + 128], f, rfl, by omega, by omega, ⟨by omega, ?_, ?_, hf⟩, ⟨by simp; omega⟩, ⟨by (with_reducible repeat (first | apply Kd.R_alloc | apply Kd.R_drewN | apply Kd.R_drew)); exact HO2.out⟩, ⟨by repeat (first | (with_reducible first | exact HB2.out | apply below_alloc | apply pw_below_drewN | apply below_drew1) | exact HB2.out)⟩⟩
        · rw [Int.pow_succ] at hf2
          omega
        · rw [← hf3]
          simp only [lebTail, if_neg hq, List.append_assoc, List.cons_append, List.nil_append]
    · have hc : decide (128 ≤ m) = false := decide_eq_false hge
      have HQ := Lib.hid (show m / 128 = 0 by omega)
      have HM := Lib.hid (show m % 128 = m by omega)
      go_wp2_with (first | (at_builtin; refine Kd.R_append (Kd.int .u8) (w0 := w) w.heap.size rfl (.tmp 15) (.tmp 18) 23 5 (.int .u8 0) 1 rfl Tryd.underlying23 leb_info rfl (by decide) (by omega) u3 xs m [.int .u8 m] (fun _ => True) (fun _ => False) rfl rfl ?aP (fun _ hk => hk.elim) ?aF ?aO ?aB ?aS ?aL ?_; (case aP => exact rfl); (case aB => exact (by repeat (first | (with_reducible first | exact HB.out | apply below_alloc | apply pw_below_drewN | apply below_drew1) | exact HB.out))); (case aF => exact (fun _ _ => trivial)); (case aO => exact (by (with_reducible repeat (first | apply Kd.R_alloc | apply Kd.R_drewN | apply Kd.R_drew)); exact HO.out)); (case aS => exact (below_size (by repeat (first | (with_reducible first | exact HB.out | apply below_alloc | apply pw_below_drewN | apply below_drew1) | exact HB.out)))); (case aL => have := HL.out; omega); intro v1 w4 ho hb hg hat; have HB2 := Aside0.mk hb; have HO2 := Aside0.mk ho; clear ho hb hg hat))
      go_ret
      obtain ⟨hf1, hf2, hf3, hf4⟩ := HF.out
      obtain ⟨f, rfl⟩ : ∃ g, f = g + 1 := ⟨f - 1, by omega⟩
      refine ⟨_, rfl, ?_, by repeat (first | (with_reducible first | exact HB2.out | apply below_alloc | apply pw_below_drewN | apply below_drew1) | exact HB2.out)⟩
      rw [← hf3, lebTail, if_pos HQ.out, HM.out]
      exact HO2.out
end Go.Proofs.YtjlmliagkfjcgaaDoor.Hand
