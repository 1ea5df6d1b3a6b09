import Derived.Test.YtcbakmojhicahaaHWordC
import Derived.Test.YtcbakmojhicahaaHWordD
import Derived.Test.YtcbakmojhicahaaHWordM
import Derived.Test.YtcbakmojhicahaaQ5x1
namespace Go.Proofs.Ytcbakmojhicahaa.Hand
open Go.RowKit Go.Proofs.YtcbakmojhicahaaW.PrintWords Go.Proofs.YtcbakmojhicahaaW.PrintLast Go.Proofs.YtcbakmojhicahaaW.PrintMore
set_option linter.unusedVariables false
set_option linter.unusedSimpArgs false

/-! ### word.Split -/
def word_Split.f (s : ByteArray) : Option (ByteArray × ByteArray × Bool) := secateurref04_Split.f s
theorem lastAt_lt (s : ByteArray) (c : Int) : ∀ k i, lastAt s c k = some i → i < k
  | 0, i, h => by cases h
  | k + 1, i, h => by
    unfold lastAt at h
    split at h
    · cases h; omega
    · have := lastAt_lt s c k i h; omega
theorem class_some {s : ByteArray} (h : s.size ≤ 9223372036854775807) : word_Class.f s = some (classL s.data.toList) := by unfold word_Class.f; rw [if_pos h]
theorem name_some {s : ByteArray} (h : s.size ≤ 9223372036854775807) : word_Name.f s = some (nameL s.data.toList) := by unfold word_Name.f; rw [if_pos h]
theorem split_eq (s : ByteArray) (hs : s.size ≤ 4611686018427387903) : Q5.word_Split.f s = some (splitB s) := by
  unfold Q5.word_Split.f strings_LastIndexByte.f splitB lastI
  rw [if_pos hs, Option.bind_some]
  cases h : lastAt s 46 s.size with
  | none => simp
  | some i =>
    have hi := lastAt_lt s 46 _ _ h
    have e2 : ((i : Int) + 1).toNat = i + 1 := by omega
    have z1 := extract_size s 0 i
    have z2 := extract_size s (i + 1) s.size
    simp only
    rw [if_neg (by omega), if_pos (by omega), if_pos (by omega), Int.toNat_natCast, wrap_in (by omega) (by omega), e2, class_some (by omega), Option.bind_some]
    cases classL (s.extract 0 i).data.toList with
    | true =>
      rw [if_pos rfl, if_pos (by omega), if_pos (by omega), name_some (by omega), Option.bind_some]
      cases nameL (s.extract (i + 1) s.size).data.toList with
      | true => rfl
      | false => rfl
    | false => rfl
theorem word_Split.calls (a0 : ByteArray) (r1 : ByteArray) (r2 : ByteArray) (r3 : Bool) (w : World) (h : word_Split.f a0 = some (r1, r2, r3)) :
    Calls Try.prog 19 #[.string a0] w fun e w' => e = .returned (.tuple #[.string r1, .string r2, .bool r3]) ∧ Drawn0 w w' := by
  unfold word_Split.f secateurref04_Split.f at h
  split at h
  · rename_i hs
    exact Q5.word_Split.calls a0 r1 r2 r3 w ((split_eq a0 hs).trans h)
  · cases h

/-! ### Parse -/
def word_Parse.f (s : ByteArray) : Option (Int × Int) := if s.size ≤ 4611686018427387903 then some (parseL (bl s)) else none
def secateurref04_Parse.f (s : ByteArray) : Option (Int × Int) := word_Parse.f s
theorem bt_bl (s : ByteArray) (i : Nat) (h : i < s.size) : ∃ b, (bl s)[i]? = some b ∧ bt s i = (b.toNat : Int) ∧ (bl s).drop i = b :: (bl s).drop (i + 1) := by
  refine ⟨s[i], ?_, bt_nat s i h, drop_data s i h⟩
  unfold bl
  rw [List.getElem?_eq_getElem (by rw [Array.length_toList]; exact h), get_data s i h]
theorem dig_bt {b : UInt8} {x : Int} (h : x = (b.toNat : Int)) : digB b = (!decide (x < 48) && !decide (x > 57)) := by
  unfold digB
  rw [Bool.eq_iff_iff]
  simp
  omega
/-- What the loop's number says of what has been read. -/
def cap (v : Nat) : Int := if v > 65536 then 65537 else v
theorem cap_step (v : Nat) (b : UInt8) (h : digB b = true) : mn (wrap64 (wrap64 (cap v * 10) + (((b.toNat : Int) - 48) % 256))) 65537 = cap (valF v b) := by
  unfold digB at h
  have h := of_decide_eq_true h
  unfold cap valF wrap64 mn
  split <;> split <;> split <;> omega
theorem parse_fin (l : List UInt8) (v : Nat) : (if cap v > 65536 then (some ((0 : Int), (12 : Int))) else some (cap v, 0)) = some (if v > 65536 then ((0 : Int), (12 : Int)) else ((v : Int), 0)) := by
  unfold cap
  split
  · rw [if_pos (by omega)]
  · rw [if_neg (by omega)]
def parseV (l : List UInt8) (v : Nat) : Int × Int := if l.all digB = true then (if l.foldl valF v > 65536 then (0, 12) else (((l.foldl valF v : Nat) : Int), 0)) else (0, 1)
theorem parse_loop (s : ByteArray) (hs : s.size ≤ 4611686018427387903) : ∀ (d i k v : Nat), s.size - i = d → i ≤ s.size → d < k →
    Q4.word_Parse.l0 k s (cap v) s.size i = some (parseV ((bl s).drop i) v) := by
  intro d
  unfold parseV
  induction d with
  | zero =>
    intro i k v hd hi hk
    obtain ⟨k, rfl⟩ : ∃ j, k = j + 1 := ⟨k - 1, by omega⟩
    rw [Q4.word_Parse.l0, if_neg (by omega), List.drop_of_length_le (by rw [bl_len]; omega), parse_fin []]
    rfl
  | succ d ih =>
    intro i k v hd hi hk
    obtain ⟨k, rfl⟩ : ∃ j, k = j + 1 := ⟨k - 1, by omega⟩
    have hlt : i < s.size := by omega
    obtain ⟨b, _, hb, hdr⟩ := bt_bl s i hlt
    have hg := dig_bt hb
    rw [Q4.word_Parse.l0, if_pos (by omega), if_pos (by omega), if_pos (by omega), hdr, List.all_cons, List.foldl_cons]
    by_cases h1 : bt s i < 48
    · rw [if_pos h1, hg, decide_eq_true h1]
      rfl
    · by_cases h2 : bt s i > 57
      · rw [if_neg h1, if_pos h2, hg, decide_eq_true h2, decide_eq_false h1]
        rfl
      · have hd1 : digB b = true := by rw [hg, decide_eq_false h1, decide_eq_false h2]; rfl
        have ih := ih (i + 1) k (valF v b) (by omega) (by omega) (by omega)
        push_cast at ih
        rw [if_neg h1, if_neg h2, hb, cap_step v b hd1, wrap_in (by omega) (by omega), ih, hd1, Bool.true_and]
theorem head_bt (s : ByteArray) (h : 0 < s.size) : ∃ b, (bl s).head? = some b ∧ bt s 0 = (b.toNat : Int) := by
  obtain ⟨b, h1, h2, _⟩ := bt_bl s 0 h
  exact ⟨b, by rw [List.head?_eq_getElem?]; exact h1, h2⟩
theorem u8_48 {b : UInt8} : (b.toNat : Int) = 48 ↔ b = 48 := by
  constructor
  · intro h
    apply UInt8.toNat.inj
    have : (48 : UInt8).toNat = 48 := rfl
    omega
  · rintro rfl; rfl
theorem isEmpty_bl (s : ByteArray) : (bl s).isEmpty = decide (s.size = 0) := by
  rw [Bool.eq_iff_iff, List.isEmpty_iff, decide_eq_true_iff, ← bl_len, List.length_eq_zero_iff]
theorem parse_eq (s : ByteArray) (hs : s.size ≤ 4611686018427387903) : Q4.word_Parse.f (s.size + 2) s = some (parseL (bl s)) := by
  unfold Q4.word_Parse.f parseL formB
  have hl := parse_loop s hs s.size 0 (s.size + 1) 0 rfl (by omega) (by omega)
  rw [List.drop_zero] at hl
  have hj : Q4.word_Parse.j0 (s.size + 2) s false = some (parseV (bl s) 0) := by
    rw [Q4.word_Parse.j0, if_neg (by decide)]
    exact hl
  have hv : parseV (bl s) 0 = if (bl s).all digB = true then (if valL (bl s) > 65536 then ((0 : Int), (12 : Int)) else ((valL (bl s) : Int), 0)) else (0, 1) := rfl
  rw [hv] at hj
  have hj1 : Q4.word_Parse.j0 (s.size + 2) s true = some (0, 1) := by rw [Q4.word_Parse.j0, if_pos rfl]
  rw [ByteArray.toList_eq, show s.data.toList = bl s from rfl]
  by_cases h0 : s.size = 0
  · have he : bl s = [] := by rw [← List.length_eq_zero_iff, bl_len, h0]
    rw [if_pos he, hj1, he]
    rfl
  · have hne : bl s ≠ [] := by intro e; apply h0; rw [← bl_len]; exact congrArg List.length e
    obtain ⟨b, hb, hbt⟩ := head_bt s (by omega)
    rw [if_neg hne, if_pos (by omega), hbt, hb, isEmpty_bl, decide_eq_false h0]
    by_cases h48 : (b.toNat : Int) = 48
    · have hb48 := u8_48.1 h48
      rw [if_pos h48, hb48]
      by_cases h1 : bl s = [48]
      · have : (bl s != [48]) = false := by rw [bne_eq_false_iff_eq]; exact h1
        rw [this, hj, h1]
        decide
      · have : (bl s != [48]) = true := by rw [bne_iff_ne]; exact h1
        rw [this, hj1]
        have h2 : (bl s == [48]) = false := beq_eq_false_iff_ne.2 h1
        rw [h2]
        simp
    · have hb48 : b ≠ 48 := fun e => h48 (u8_48.2 e)
      rw [if_neg h48, hj]
      have : ((some b != some (48 : UInt8)) || bl s == [48]) = true := by simp [bne, hb48]
      rw [this]
      simp
theorem word_Parse.calls (a0 : ByteArray) (r1 r2 : Int) (w : World) (h : word_Parse.f a0 = some (r1, r2)) :
    Calls Try.prog 26 #[.string a0] w fun e w' => e = .returned (.tuple #[.int .i64 r1, .int .i64 r2]) ∧ Below w.heap.size w w' := by
  unfold word_Parse.f at h
  split at h
  · rename_i hs
    exact Q4.word_Parse.calls _ a0 r1 r2 w ((parse_eq a0 hs).trans h)
  · cases h

def capR (v : Nat) : Int := if v > 65536 then 65536 else v
theorem capR_step (v : Nat) (b : UInt8) (h : digB b = true) : wrap64 (wrap64 (capR v * 10) + (((b.toNat : Int) - 48) % 256)) = if v > 65536 then 655360 + ((b.toNat : Int) - 48) else (valF v b : Int) := by
  unfold digB at h
  have h := of_decide_eq_true h
  unfold capR valF wrap64
  split <;> omega
theorem parseR_loop (s : ByteArray) (hs : s.size ≤ 4611686018427387903) : ∀ (d i k v : Nat), s.size - i = d → i ≤ s.size → 2 * d < k →
    Q4.secateurref04_Parse.l0 k s (capR v) (decide (v > 65536)) i = some (parseV ((bl s).drop i) v) := by
  intro d
  unfold parseV
  induction d with
  | zero =>
    intro i k v hd hi hk
    obtain ⟨k, rfl⟩ : ∃ j, k = j + 1 := ⟨k - 1, by omega⟩
    rw [Q4.secateurref04_Parse.l0, if_neg (by omega), List.drop_of_length_le (by rw [bl_len]; omega)]
    unfold capR
    by_cases hv : v > 65536
    · simp [hv]
    · simp [hv]
  | succ d ih =>
    intro i k v hd hi hk
    obtain ⟨k, rfl⟩ : ∃ j, k = j + 2 := ⟨k - 2, by omega⟩
    have hlt : i < s.size := by omega
    obtain ⟨b, _, hb, hdr⟩ := bt_bl s i hlt
    have hg := dig_bt hb
    rw [Q4.secateurref04_Parse.l0, if_pos (by omega), if_pos (by omega), hdr, List.all_cons, List.foldl_cons]
    by_cases h1 : bt s i < 48
    · rw [if_pos h1, hg, decide_eq_true h1, Q4.secateurref04_Parse.j2, if_pos rfl]
      rfl
    · by_cases h2 : bt s i > 57
      · rw [if_neg h1, hg, decide_eq_true h2, decide_eq_false h1, Q4.secateurref04_Parse.j2, if_pos rfl]
        rfl
      · have hd1 : digB b = true := by rw [hg, decide_eq_false h1, decide_eq_false h2]; rfl
        have ih := ih (i + 1) k (valF v b) (by omega) (by omega) (by omega)
        push_cast at ih
        have hst := capR_step v b hd1
        have hd2 := of_decide_eq_true (show decide (48 ≤ b.toNat ∧ b.toNat ≤ 57) = true from hd1)
        rw [if_neg h1, decide_eq_false h2, Q4.secateurref04_Parse.j2, if_neg (by decide), if_pos (by omega), if_pos (by omega), hb, hst, wrap_in (by omega) (by omega), hd1, Bool.true_and, ← ih]
        by_cases hv : v > 65536
        · have hv2 : valF v b > 65536 := by unfold valF; omega
          rw [if_pos hv, if_pos (by omega)]
          unfold capR
          rw [if_pos hv2, decide_eq_true hv2]
        · rw [if_neg hv]
          by_cases hv2 : valF v b > 65536
          · rw [if_pos (by omega)]
            unfold capR
            rw [if_pos hv2, decide_eq_true hv2]
          · rw [if_neg (by omega)]
            unfold capR
            rw [if_neg hv2, decide_eq_false hv2, decide_eq_false hv]
theorem parseR_eq (s : ByteArray) (hs : s.size ≤ 4611686018427387903) : Q4.secateurref04_Parse.f (2 * s.size + 2) s = some (parseL (bl s)) := by
  unfold Q4.secateurref04_Parse.f parseL formB
  have hl := parseR_loop s hs s.size 0 (2 * s.size + 1) 0 rfl (by omega) (by omega)
  rw [List.drop_zero] at hl
  have hj : Q4.secateurref04_Parse.j0 (2 * s.size + 2) s false = some (parseV (bl s) 0) := by
    rw [Q4.secateurref04_Parse.j0, if_neg (by decide)]
    exact hl
  have hv : parseV (bl s) 0 = if (bl s).all digB = true then (if valL (bl s) > 65536 then ((0 : Int), (12 : Int)) else ((valL (bl s) : Int), 0)) else (0, 1) := rfl
  rw [hv] at hj
  have hj1 : Q4.secateurref04_Parse.j0 (2 * s.size + 2) s true = some (0, 1) := by rw [Q4.secateurref04_Parse.j0, if_pos rfl]
  by_cases h0 : s.size = 0
  · have he : bl s = [] := by rw [← List.length_eq_zero_iff, bl_len, h0]
    rw [if_pos (by omega), hj1, he]
    rfl
  · obtain ⟨b, hb, hbt⟩ := head_bt s (by omega)
    rw [if_neg (by omega), hbt, hb, isEmpty_bl, decide_eq_false h0]
    by_cases h1 : (s.size : Int) > 1
    · rw [if_pos h1, if_pos (by omega)]
      by_cases h48 : (b.toNat : Int) = 48
      · have hb48 := u8_48.1 h48
        have h2 : (bl s == [48]) = false := beq_eq_false_iff_ne.2 (fun e => by have := bl_len s; rw [e] at this; simp at this; omega)
        rw [h48, beq_self_eq_true, hj1, h2, hb48]
        rfl
      · have hb48 : b ≠ 48 := fun e => h48 (u8_48.2 e)
        have h2 : ((b.toNat : Int) == 48) = false := beq_eq_false_iff_ne.2 h48
        have h3 : ((some b != some (48 : UInt8)) || bl s == [48]) = true := by simp [bne, hb48]
        rw [h2, hj, h3]
        simp
    · rw [if_neg h1, hj]
      have hone : bl s = [b] := by
        have hlen := bl_len s
        cases hh : bl s with
        | nil => rw [hh] at hb; cases hb
        | cons x l =>
          rw [hh] at hb hlen
          simp at hb hlen
          have : l = [] := List.length_eq_zero_iff.1 (by omega)
          rw [hb, this]
      have h3 : ((some b != some (48 : UInt8)) || bl s == [48]) = true := by
        rw [hone]
        by_cases e : b = 48
        · subst e; decide
        · simp [bne, e]
      rw [h3]
      simp
theorem secateurref04_Parse.calls (a0 : ByteArray) (r1 r2 : Int) (w : World) (h : secateurref04_Parse.f a0 = some (r1, r2)) :
    Calls Try.prog 28 #[.string a0] w fun e w' => e = .returned (.tuple #[.int .i64 r1, .int .i64 r2]) ∧ Drawn0 w w' := by
  unfold secateurref04_Parse.f word_Parse.f at h
  split at h
  · rename_i hs
    exact Q4.secateurref04_Parse.calls _ a0 r1 r2 w ((parseR_eq a0 hs).trans h)
  · cases h
end Go.Proofs.Ytcbakmojhicahaa.Hand
