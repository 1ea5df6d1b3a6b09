import Derived.Test.YtcbakmojhicahaaHWordG
import Derived.Laws.RangeString
import Derived.Laws.RangeAny
namespace Go.Proofs.Ytcbakmojhicahaa.Hand
open Go.RowKit Go.Proofs.YtcbakmojhicahaaW.PrintWords Go.Proofs.YtcbakmojhicahaaW.PrintLast Go.Proofs.YtcbakmojhicahaaW.PrintMore
set_option linter.unusedVariables false
set_option linter.unusedSimpArgs false

/-! ### word.plain -/
def oddR (x : Nat) : Bool := decide (x < 32) || decide (126 < x)
theorem plain_idx (s : ByteArray) : ∀ (f pos : Nat), s.size - pos ≤ f → (Lib.idxFuncFrom oddR true s f pos < 0 ↔ ((bl s).drop pos).all seen = true) := by
  intro f
  induction f with
  | zero =>
    intro pos h
    rw [List.drop_of_length_le (by rw [bl_len]; omega)]
    simp [Lib.idxFuncFrom]
  | succ f ih =>
    intro pos h
    by_cases hp : pos < s.size
    · obtain ⟨b, hb1, hb2, hdr⟩ := bt_bl s pos hp
      have hbs : s[pos].toNat = b.toNat := by have := bt_nat s pos hp; rw [hb2] at this; omega
      rw [Lib.idxFuncFrom, if_pos hp, hdr, List.all_cons]
      by_cases ha : b.toNat < 128
      · have hd := decode_ascii s pos hp (by rw [hbs]; exact ha)
        rw [hd, hbs]
        by_cases ho : oddR b.toNat = true
        · rw [if_pos ho]
          have : seen b = false := by
            unfold oddR at ho
            unfold seen
            simp at ho ⊢
            omega
          rw [this]
          simp
        · rw [if_neg ho]
          have : seen b = true := by
            unfold oddR at ho
            unfold seen
            simp at ho ⊢
            omega
          rw [this, Bool.true_and]
          exact ih (pos + 1) (by omega)
      · have hd := (decode_high s pos hp (by rw [hbs]; omega)).1
        have ho : oddR (Utf8.decode s pos).1 = true := by unfold oddR; simp; omega
        have : seen b = false := by unfold seen; simp; omega
        rw [if_pos ho, this]
        simp
    · rw [Lib.idxFuncFrom, if_neg hp, List.drop_of_length_le (by rw [bl_len]; omega)]
      simp
theorem plain_iff (s : ByteArray) : decide (Lib.idxFunc oddR true s < 0) = (bl s).all seen := by
  have := plain_idx s s.size 0 (by omega)
  rw [List.drop_zero] at this
  rw [Bool.eq_iff_iff, decide_eq_true_iff]
  exact this
set_option maxHeartbeats 8000000 in
set_option maxRecDepth 100000 in
theorem plain_pred (w : World) : PredAt Try.prog 151 #[] encR oddR w := fun W r _ => by
  unfold FnGives
  show Calls Try.prog 151 #[.int .i32 (r : Int)] W _
  by_cases h1 : r < 32
  · have hv : Aside0 (oddR r = true) := ⟨by unfold oddR; simp; omega⟩
    have h2 : decide ((r : Int) < 32) = true := decide_eq_true (by omega)
    clear h1
    go_enter Try.func151, Try.ntmps151
    go_wp2
    go_ret
    exact ⟨by rw [hv.out]; rfl, 0, rfl⟩
  · have h2 : decide ((r : Int) < 32) = false := decide_eq_false (by omega)
    by_cases h3 : 126 < r
    · have hv : Aside0 (oddR r = true) := ⟨by unfold oddR; simp; omega⟩
      have h4 : decide ((126 : Int) < (r : Int)) = true := decide_eq_true (by omega)
      clear h1 h3
      go_enter Try.func151, Try.ntmps151
      go_wp2
      go_ret
      exact ⟨by rw [hv.out]; rfl, 0, rfl⟩
    · have hv : Aside0 (oddR r = false) := ⟨by unfold oddR; simp; omega⟩
      have h4 : decide ((126 : Int) < (r : Int)) = false := decide_eq_false (by omega)
      clear h1 h3
      go_enter Try.func151, Try.ntmps151
      go_wp2
      go_ret
      exact ⟨by rw [hv.out]; rfl, 0, rfl⟩
def word_plain.f (s : ByteArray) : Option Bool := some ((bl s).all seen)
set_option maxHeartbeats 8000000 in
set_option maxRecDepth 100000 in
theorem word_plain.calls (a0 : ByteArray) (r : Bool) (w : World) (h : word_plain.f a0 = some r) :
    Calls Try.prog 124 #[.string a0] w fun e w' => e = .returned (.bool r) ∧ Below w.heap.size w w' := by
  obtain rfl := Option.some.inj h
  clear h
  have HW := Aside0.mk (Try.strings_IndexFunc 151 #[] (by intro args w; rfl) oddR a0 w (plain_pred w))
  have HV := Aside0.mk (plain_iff a0)
  obtain ⟨x, hx⟩ : ∃ x, x = Lib.idxFunc oddR true a0 := ⟨_, rfl⟩
  rw [← hx] at HW HV
  clear hx
  go_enter Try.func124, Try.ntmps124
  go_wp2_with fail
  refine HW.out.mono ?_
  rintro e w1 ⟨rfl, hb⟩
  go_wp2
  go_ret
  exact ⟨by rw [← HV.out]; rfl, hb⟩
end Go.Proofs.Ytcbakmojhicahaa.Hand
