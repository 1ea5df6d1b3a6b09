import Derived.Test.YtcbakmojhicahaaQ4x1
import Derived.Test.YtcbakmojhicahaaQ4x2
import Derived.Test.YtcbakmojhicahaaQ4x3
import Derived.Test.YtcbakmojhicahaaHWordA
namespace Go.Proofs.Ytcbakmojhicahaa.Hand
open Go.RowKit Go.Proofs.YtcbakmojhicahaaW.PrintWords Go.Proofs.YtcbakmojhicahaaW.PrintLast Go.Proofs.YtcbakmojhicahaaW.PrintMore
set_option linter.unusedVariables false
set_option linter.unusedSimpArgs false

/-! ### letters -/
def letterI (c : Int) : Bool := decide (65 ≤ c ∧ c ≤ 90) || decide (97 ≤ c ∧ c ≤ 122) || decide (48 ≤ c ∧ c ≤ 57) || decide (c = 95) || decide (c = 36)
def word_letter.f (a0 : Int) : Option Bool := some (letterI a0)
def secateurref04_letter.f (a0 : Int) : Option Bool := some (letterI a0)
theorem letter_eq (c : Int) : Q4.word_letter.f 4 c = some (letterI c) := by
  unfold Q4.word_letter.f letterI
  simp only [Q4.word_letter.j0, Q4.word_letter.j1, Q4.word_letter.j2]
  by_cases h1 : c = 95
  · subst h1; decide
  by_cases h2 : c = 36
  · subst h2; decide
  by_cases h3 : 65 ≤ c <;> by_cases h4 : c ≤ 90 <;> by_cases h5 : 97 ≤ c <;> by_cases h6 : c ≤ 122 <;> by_cases h7 : 48 ≤ c <;> by_cases h8 : c ≤ 57 <;> simp [*] <;> omega
theorem letterR_eq (c : Int) : Q4.secateurref04_letter.f c = some (letterI c) := by
  unfold Q4.secateurref04_letter.f letterI
  by_cases h1 : c = 95
  · subst h1; decide
  by_cases h2 : c = 36
  · subst h2; decide
  by_cases h3 : 65 ≤ c <;> by_cases h4 : c ≤ 90 <;> by_cases h5 : 97 ≤ c <;> by_cases h6 : c ≤ 122 <;> by_cases h7 : 48 ≤ c <;> by_cases h8 : c ≤ 57 <;> simp [*] <;> omega
theorem word_letter.calls (a0 : Int) (r : Bool) (w : World) (h : word_letter.f a0 = some r) :
    Calls Try.prog 82 #[.int .u8 a0] w fun e w' => e = .returned (.bool r) ∧ Drawn0 w w' := Q4.word_letter.calls 4 a0 r w ((letter_eq a0).trans h)
theorem secateurref04_letter.calls (a0 : Int) (r : Bool) (w : World) (h : secateurref04_letter.f a0 = some r) :
    Calls Try.prog 125 #[.int .u8 a0] w fun e w' => e = .returned (.bool r) ∧ Drawn0 w w' := Q4.secateurref04_letter.calls a0 r w ((letterR_eq a0).trans h)

/-! ### names -/
def slashL (c : Int) : Bool := letterI c || decide (c = 47)
def initL : List UInt8 := [60, 99, 108, 105, 110, 105, 116, 62]
def nameL (l : List UInt8) : Bool := decide (l = initL) || ofL letterI l
def classL (l : List UInt8) : Bool := ofL slashL l
def word_Name.f (s : ByteArray) : Option Bool := if s.size ≤ 9223372036854775807 then some (nameL s.data.toList) else none
def word_Class.f (s : ByteArray) : Option Bool := if s.size ≤ 9223372036854775807 then some (classL s.data.toList) else none
set_option maxHeartbeats 8000000 in
set_option maxRecDepth 100000 in
theorem word_slash (c : Int) (w : World) : Calls Try.prog 84 #[.int .u8 c] w fun e w' => e = .returned (.bool (slashL c)) ∧ Drawn0 w w' := by
  obtain ⟨b, hb⟩ : ∃ b, b = letterI c := ⟨_, rfl⟩
  have HL := Aside0.mk (word_letter.calls c b w (by unfold word_letter.f; rw [hb]))
  have HV : Aside0 (slashL c = (b || decide (c = 47))) := ⟨by unfold slashL; rw [hb]⟩
  clear hb
  go_enter Try.func84, Try.ntmps84
  go_wp2_with fail
  refine HL.out.mono ?_
  rintro e w1 ⟨rfl, hd⟩
  cases b with
  | true =>
    go_wp2
    go_ret
    exact ⟨by rw [HV.out]; rfl, hd⟩
  | false =>
    go_wp2
    go_ret
    exact ⟨by rw [HV.out]; first | rfl | simp, hd⟩
set_option maxHeartbeats 8000000 in
set_option maxRecDepth 100000 in
theorem word_Class.calls (a0 : ByteArray) (r : Bool) (w : World) (h : word_Class.f a0 = some r) :
    Calls Try.prog 24 #[.string a0] w fun e w' => e = .returned (.bool r) ∧ Drawn0 w w' := by
  unfold word_Class.f at h
  split at h
  · rename_i hs
    obtain rfl := Option.some.inj h
    have HW := Aside0.mk (word_of_walk 84 (by intro args w; rfl) slashL a0 w (fun W c _ _ => word_slash c W) hs)
    clear h hs
    go_enter Try.func24, Try.ntmps24
    go_wp2_with fail
    refine HW.out.mono ?_
    rintro e w1 ⟨rfl, hd⟩
    go_wp2
    go_ret
    exact ⟨rfl, hd⟩
  · cases h
set_option maxHeartbeats 8000000 in
set_option maxRecDepth 100000 in
theorem word_Name.calls (a0 : ByteArray) (r : Bool) (w : World) (h : word_Name.f a0 = some r) :
    Calls Try.prog 22 #[.string a0] w fun e w' => e = .returned (.bool r) ∧ Drawn0 w w' := by
  unfold word_Name.f at h
  split at h
  · rename_i hs
    obtain rfl := Option.some.inj h
    have HW := Aside0.mk (word_of_walk 82 (by intro args w; rfl) letterI a0 w (fun W c _ _ => word_letter.calls c _ W rfl) hs)
    have HV : Aside0 (nameL a0.data.toList = ((a0.toList == [60, 99, 108, 105, 110, 105, 116, 62]) || ofL letterI a0.data.toList)) := ⟨by
      unfold nameL
      rw [ByteArray.toList_eq]
      congr 1
      rw [Bool.eq_iff_iff, decide_eq_true_iff, beq_iff_eq]
      rfl⟩
    clear h hs
    go_enter Try.func22, Try.ntmps22
    go_wp2_with fail
    · rename_i h0
      go_ret
      refine ⟨?_, Drawn0.refl _⟩
      rw [HV.out, h0]
      rfl
    · refine HW.out.mono ?_
      rintro e w1 ⟨rfl, hd⟩
      go_wp2
      go_ret
      exact ⟨by rw [HV.out]; rfl, hd⟩
  · cases h
end Go.Proofs.Ytcbakmojhicahaa.Hand
