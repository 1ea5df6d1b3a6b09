import Derived.Test.YtcbakmojhicahaaHWordB
namespace Go.Proofs.Ytcbakmojhicahaa.Hand
open Go.RowKit Go.Proofs.YtcbakmojhicahaaW.PrintWords Go.Proofs.YtcbakmojhicahaaW.PrintLast Go.Proofs.YtcbakmojhicahaaW.PrintMore
set_option linter.unusedVariables false
set_option linter.unusedSimpArgs false

def moreL (m : Int) (c : Int) : Bool := letterI c || decide (c = m)
theorem get_data (s : ByteArray) (i : Nat) (h : i < s.size) : s.data.toList[i]'(by rw [Array.length_toList]; exact h) = s[i] := by
  rw [Array.getElem_toList]; rfl
theorem drop_data (s : ByteArray) (i : Nat) (h : i < s.size) : s.data.toList.drop i = s[i] :: s.data.toList.drop (i + 1) := by
  rw [List.drop_eq_getElem_cons (by rw [Array.length_toList]; exact h), get_data s i h]
theorem bt_nat (s : ByteArray) (i : Nat) (h : i < s.size) : bt s (i : Int) = (s[i].toNat : Int) := by
  unfold bt
  rw [dif_pos (by simpa using h)]
  rfl
theorem all_loop (s : ByteArray) (m : Int) (hs : s.size ≤ 9223372036854775806) : ∀ (d i k : Nat), s.size - i = d → i ≤ s.size → d < k → Q4.secateurref04_all.l0 k s m i = some ((s.data.toList.drop i).all (fun b => moreL m (b.toNat : Int))) := by
  intro d
  induction d with
  | zero =>
    intro i k hd hi hk
    obtain ⟨k, rfl⟩ : ∃ j, k = j + 1 := ⟨k - 1, by omega⟩
    rw [Q4.secateurref04_all.l0, if_neg (by omega), List.drop_of_length_le (by rw [Array.length_toList]; show s.size ≤ i; omega)]
    rfl
  | succ d ih =>
    intro i k hd hi hk
    obtain ⟨k, rfl⟩ : ∃ j, k = j + 1 := ⟨k - 1, by omega⟩
    have hlt : i < s.size := by omega
    have ih := ih (i + 1) k (by omega) (by omega) (by omega)
    push_cast at ih
    have e1 : secateurref04_letter.f (bt s i) = some (letterI (bt s i)) := rfl
    have e0 : Q4.secateurref04_letter.f (bt s i) = some (letterI (bt s i)) := letterR_eq _
    rw [Q4.secateurref04_all.l0, if_pos (by omega), if_pos (by omega), e0, Option.bind_some, wrap_in (by omega) (by omega), ih, drop_data s i hlt, List.all_cons, bt_nat s i hlt]
    unfold moreL
    cases letterI (s[i].toNat : Int) with
    | true => simp
    | false =>
      by_cases h : (s[i].toNat : Int) = m
      · simp [h]
      · simp [h]
theorem all_eq (s : ByteArray) (m : Int) (hs : s.size ≤ 9223372036854775806) : Q4.secateurref04_all.f (s.size + 2) s m = some (ofL (moreL m) s.data.toList) := by
  unfold Q4.secateurref04_all.f ofL
  have hl : s.data.toList.length = s.size := by rw [Array.length_toList]; rfl
  rw [hl]
  by_cases h1 : (s.size : Int) < 1
  · rw [if_pos h1, Q4.secateurref04_all.j0, if_pos rfl, decide_eq_false (show ¬ (0 < s.size ∧ s.size ≤ 32) by omega), Bool.and_false]
  · rw [if_neg h1, Q4.secateurref04_all.j0]
    by_cases h2 : (s.size : Int) > 32
    · rw [if_pos (decide_eq_true h2), decide_eq_false (show ¬ (0 < s.size ∧ s.size ≤ 32) by omega), Bool.and_false]
    · rw [if_neg (by rw [decide_eq_false h2]; decide), decide_eq_true (show 0 < s.size ∧ s.size ≤ 32 by omega), Bool.and_true]
      exact all_loop s m hs s.size 0 (s.size + 1) rfl (by omega) (by omega)
theorem ofL_letter (l : List UInt8) : ofL (moreL 95) l = ofL letterI l := by
  have : moreL 95 = letterI := by
    funext c
    unfold moreL
    by_cases h : c = 95
    · subst h; decide
    · rw [decide_eq_false h, Bool.or_false]
  rw [this]
def secateurref04_Name.f (s : ByteArray) : Option Bool := if s.size ≤ 9223372036854775806 then some (nameL s.data.toList) else none
def secateurref04_Class.f (s : ByteArray) : Option Bool := if s.size ≤ 9223372036854775806 then some (classL s.data.toList) else none
theorem classR_eq (s : ByteArray) (hs : s.size ≤ 9223372036854775806) : Q4.secateurref04_Class.f (s.size + 2) s = some (classL s.data.toList) := by
  unfold Q4.secateurref04_Class.f
  rw [all_eq s 47 hs]
  rfl
theorem nameR_eq (s : ByteArray) (hs : s.size ≤ 9223372036854775806) : Q4.secateurref04_Name.f (s.size + 2) s = some (nameL s.data.toList) := by
  unfold Q4.secateurref04_Name.f nameL initL
  rw [all_eq s 95 hs, ofL_letter, ByteArray.toList_eq]
  by_cases h : s.data.toList = [60, 99, 108, 105, 110, 105, 116, 62]
  · rw [if_pos h, decide_eq_true h, Bool.true_or]
  · rw [if_neg h, decide_eq_false h, Bool.false_or]
    rfl
theorem secateurref04_Name.calls (a0 : ByteArray) (r : Bool) (w : World) (h : secateurref04_Name.f a0 = some r) :
    Calls Try.prog 23 #[.string a0] w fun e w' => e = .returned (.bool r) ∧ Drawn0 w w' := by
  unfold secateurref04_Name.f at h
  split at h
  · rename_i hs
    exact Q4.secateurref04_Name.calls _ a0 r w ((nameR_eq a0 hs).trans h)
  · cases h
theorem secateurref04_Class.calls (a0 : ByteArray) (r : Bool) (w : World) (h : secateurref04_Class.f a0 = some r) :
    Calls Try.prog 25 #[.string a0] w fun e w' => e = .returned (.bool r) ∧ Drawn0 w w' := by
  unfold secateurref04_Class.f at h
  split at h
  · rename_i hs
    exact Q4.secateurref04_Class.calls _ a0 r w ((classR_eq a0 hs).trans h)
  · cases h

/-! ### the last point -/
/-- Where a byte stands last among the first k of a text. -/
def lastAt (s : ByteArray) (c : Int) : Nat → Option Nat
  | 0 => none
  | k + 1 => if bt s k = c then some k else lastAt s c k
def splitB (s : ByteArray) : ByteArray × ByteArray × Bool := match lastAt s 46 s.size with
  | none => (⟨#[]⟩, ⟨#[]⟩, false)
  | some i => if classL (s.extract 0 i).data.toList && nameL (s.extract (i + 1) s.size).data.toList then (s.extract 0 i, s.extract (i + 1) s.size, true) else (⟨#[]⟩, ⟨#[]⟩, false)
def secateurref04_Split.f (s : ByteArray) : Option (ByteArray × ByteArray × Bool) := if s.size ≤ 4611686018427387903 then some (splitB s) else none
theorem extract_size (s : ByteArray) (a b : Nat) : (s.extract a b).size ≤ s.size := by
  rw [ByteArray.size_extract]
  omega
/-- More rounds than a text has bytes serve for each of its parts. -/
theorem mono_le {α : Type} {f : Nat → Option α} (hm : ∀ k, LeO (f k) (f (k + 1))) {j k : Nat} (h : j ≤ k) {r : α} (hr : f j = some r) : f k = some r := by
  induction h with
  | refl => exact hr
  | step _ ih => exact hm _ _ ih
theorem class_part (s : ByteArray) (a b k : Nat) (hs : s.size ≤ 4611686018427387903) (hk : s.size + 2 ≤ k) : Q4.secateurref04_Class.f k (s.extract a b) = some (classL (s.extract a b).data.toList) := by
  have hz := extract_size s a b
  exact mono_le (f := fun k => Q4.secateurref04_Class.f k (s.extract a b)) (fun k => Q4.secateurref04_Class.mono _ k) (show (s.extract a b).size + 2 ≤ k by omega) (classR_eq _ (by omega))
theorem name_part (s : ByteArray) (a b k : Nat) (hs : s.size ≤ 4611686018427387903) (hk : s.size + 2 ≤ k) : Q4.secateurref04_Name.f k (s.extract a b) = some (nameL (s.extract a b).data.toList) := by
  have hz := extract_size s a b
  exact mono_le (f := fun k => Q4.secateurref04_Name.f k (s.extract a b)) (fun k => Q4.secateurref04_Name.mono _ k) (show (s.extract a b).size + 2 ≤ k by omega) (nameR_eq _ (by omega))
theorem split_loop (s : ByteArray) (hs : s.size ≤ 4611686018427387903) : ∀ (n k : Nat), n ≤ s.size → n + s.size + 2 < k → Q4.secateurref04_Split.l0 k s ((n : Int) - 1) = some (match lastAt s 46 n with
    | none => (⟨#[]⟩, ⟨#[]⟩, false)
    | some i => if classL (s.extract 0 i).data.toList && nameL (s.extract (i + 1) s.size).data.toList then (s.extract 0 i, s.extract (i + 1) s.size, true) else (⟨#[]⟩, ⟨#[]⟩, false)) := by
  intro n
  induction n with
  | zero =>
    intro k _ hk
    obtain ⟨k, rfl⟩ : ∃ j, k = j + 1 := ⟨k - 1, by omega⟩
    rw [Q4.secateurref04_Split.l0, if_neg (by omega)]
    rfl
  | succ n ih =>
    intro k hn hk
    obtain ⟨k, rfl⟩ : ∃ j, k = j + 1 := ⟨k - 1, by omega⟩
    have e : ((n + 1 : Nat) : Int) - 1 = (n : Int) := by omega
    rw [e, Q4.secateurref04_Split.l0, if_pos (by omega), if_pos (by omega), if_pos (by omega), wrap_in (by omega) (by omega), lastAt]
    by_cases h : bt s n = 46
    · have e2 : ((n : Int) + 1).toNat = n + 1 := by omega
      rw [if_pos h, if_pos h, if_pos (by omega), if_pos (by omega), if_pos (by omega), e2, Int.toNat_natCast, class_part s 0 n k hs (by omega), Option.bind_some, name_part s (n + 1) s.size k hs (by omega), Option.bind_some]
      dsimp only
      cases classL (s.extract 0 n).data.toList with
      | true =>
        cases nameL (s.extract (n + 1) s.size).data.toList with
        | true => rfl
        | false => rfl
      | false => rfl
    · rw [if_neg h, if_neg h, wrap_in (by omega) (by omega)]
      exact ih k (by omega) (by omega)
theorem secateurref04_Split.calls (a0 : ByteArray) (r1 : ByteArray) (r2 : ByteArray) (r3 : Bool) (w : World) (h : secateurref04_Split.f a0 = some (r1, r2, r3)) :
    Calls Try.prog 20 #[.string a0] w fun e w' => e = .returned (.tuple #[.string r1, .string r2, .bool r3]) ∧ Drawn0 w w' := by
  unfold secateurref04_Split.f at h
  split at h
  · rename_i hs
    refine Q4.secateurref04_Split.calls (a0.size + a0.size + 3) a0 r1 r2 r3 w ?_
    unfold Q4.secateurref04_Split.f
    rw [wrap_in (by omega) (by omega), split_loop a0 hs a0.size _ (by omega) (by omega)]
    exact h
  · cases h
end Go.Proofs.Ytcbakmojhicahaa.Hand
