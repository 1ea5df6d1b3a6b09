import Derived.Test.YtjlmliagkfjcgaaDoorHLeb
namespace Go.Proofs.YtjlmliagkfjcgaaDoor.Hand
open Go.RowKit Go.Proofs.YtjlmliagkfjcgaaDoorW.PrintWords Go.Proofs.YtjlmliagkfjcgaaDoorW.PrintLast Go.Proofs.YtjlmliagkfjcgaaDoorW.PrintMore
set_option linter.unusedVariables false
set_option linter.unusedSimpArgs false

theorem rd_nat (l : List Int) (i : Nat) : rd l (i : Int) = l.getD i 0 := by simp [rd]
theorem drop_cons (l : List Int) {i : Nat} (h : i < l.length) : l.drop i = l.getD i 0 :: l.drop (i + 1) := by
  rw [List.drop_eq_getElem_cons h]
  simp [List.getD, List.getElem?_eq_getElem h]

/-! ### SameBytes, SameNums -/
def secateurref01_SameBytes.f (l0 l1 : List Int) : Option Bool := some (decide (l0 = l1))
def secateurref01_SameNums.f (l0 l1 : List Int) : Option Bool := some (decide (l0 = l1))
theorem len_of_C {k : IntKind} {w : World} {A : Option Addr} {l : List Int} (h : Kd.C (Kd.int k) w A l.length l) : l.length ≤ 9223372036854775807 :=
  (Kd.reads_of_C (enc := Value.int k) (d := (0 : Int)) (h1 := fun _ => rfl) h).2.1
theorem same_step (l0 l1 : List Int) {i : Nat} (h0 : i < l0.length) (h1 : i < l1.length) : (l0.drop i = l1.drop i) ↔ (l0.getD i 0 = l1.getD i 0 ∧ l0.drop (i + 1) = l1.drop (i + 1)) := by
  rw [drop_cons l0 h0, drop_cons l1 h1]
  simp
theorem sameBytes_loop (l0 l1 : List Int) (hl : l0.length = l1.length) (hm : l0.length ≤ 9223372036854775807) (d : Nat) : ∀ (k i : Nat), l0.length - i = d → i ≤ l0.length → d < k → Q1.secateurref01_SameBytes.l0 k l0 l1 i = some (decide (l0.drop i = l1.drop i)) := by
  induction d with
  | zero =>
    intro k i hd hi hk
    obtain ⟨k, rfl⟩ : ∃ m, k = m + 1 := ⟨k - 1, by omega⟩
    simp only [Q1.secateurref01_SameBytes.l0]
    rw [if_neg (by omega)]
    have e : l0.drop i = l1.drop i := by rw [List.drop_of_length_le (by omega), List.drop_of_length_le (by omega)]
    simp [e]
  | succ d ih =>
    intro k i hd hi hk
    obtain ⟨k, rfl⟩ : ∃ m, k = m + 1 := ⟨k - 1, by omega⟩
    simp only [Q1.secateurref01_SameBytes.l0]
    rw [if_pos (by omega), if_pos (by omega), if_pos (by omega), rd_nat, rd_nat, w64 (by omega) (by omega)]
    have ih := ih k (i + 1) (by omega) (by omega) (by omega)
    push_cast at ih
    have hs := same_step l0 l1 (i := i) (by omega) (by omega)
    by_cases hx : l0.getD i 0 = l1.getD i 0
    · rw [if_pos hx, ih]
      congr 1
      exact decide_eq_decide.2 (by rw [hs]; exact ⟨fun h => ⟨hx, h⟩, fun h => h.2⟩)
    · rw [if_neg hx]
      congr 1
      exact (decide_eq_false (by rw [hs]; exact fun h => hx h.1)).symm
theorem sameNums_loop (l0 l1 : List Int) (hl : l0.length = l1.length) (hm : l0.length ≤ 9223372036854775807) (d : Nat) : ∀ (k i : Nat), l0.length - i = d → i ≤ l0.length → d < k → Q1.secateurref01_SameNums.l0 k l0 l1 i = some (decide (l0.drop i = l1.drop i)) := by
  induction d with
  | zero =>
    intro k i hd hi hk
    obtain ⟨k, rfl⟩ : ∃ m, k = m + 1 := ⟨k - 1, by omega⟩
    simp only [Q1.secateurref01_SameNums.l0]
    rw [if_neg (by omega)]
    have e : l0.drop i = l1.drop i := by rw [List.drop_of_length_le (by omega), List.drop_of_length_le (by omega)]
    simp [e]
  | succ d ih =>
    intro k i hd hi hk
    obtain ⟨k, rfl⟩ : ∃ m, k = m + 1 := ⟨k - 1, by omega⟩
    simp only [Q1.secateurref01_SameNums.l0]
    rw [if_pos (by omega), if_pos (by omega), if_pos (by omega), rd_nat, rd_nat, w64 (by omega) (by omega)]
    have ih := ih k (i + 1) (by omega) (by omega) (by omega)
    push_cast at ih
    have hs := same_step l0 l1 (i := i) (by omega) (by omega)
    by_cases hx : l0.getD i 0 = l1.getD i 0
    · rw [if_pos hx, ih]
      congr 1
      exact decide_eq_decide.2 (by rw [hs]; exact ⟨fun h => ⟨hx, h⟩, fun h => h.2⟩)
    · rw [if_neg hx]
      congr 1
      exact (decide_eq_false (by rw [hs]; exact fun h => hx h.1)).symm
theorem sameBytes_eq (l0 l1 : List Int) (hm : l0.length ≤ 9223372036854775807) : Q1.secateurref01_SameBytes.f (l0.length + 1) l0 l1 = some (decide (l0 = l1)) := by
  unfold Q1.secateurref01_SameBytes.f
  by_cases h : l0.length = l1.length
  · rw [if_pos (by omega)]
    exact sameBytes_loop l0 l1 h hm _ _ 0 rfl (by omega) (by omega)
  · rw [if_neg (by omega)]
    congr 1
    exact (decide_eq_false (fun e => h (by rw [e]))).symm
theorem sameNums_eq (l0 l1 : List Int) (hm : l0.length ≤ 9223372036854775807) : Q1.secateurref01_SameNums.f (l0.length + 1) l0 l1 = some (decide (l0 = l1)) := by
  unfold Q1.secateurref01_SameNums.f
  by_cases h : l0.length = l1.length
  · rw [if_pos (by omega)]
    exact sameNums_loop l0 l1 h hm _ _ 0 rfl (by omega) (by omega)
  · rw [if_neg (by omega)]
    congr 1
    exact (decide_eq_false (fun e => h (by rw [e]))).symm
theorem secateurref01_SameBytes.calls (A0 : Option Addr) (c0 : Nat) (l0 : List Int) (A1 : Option Addr) (c1 : Nat) (l1 : List Int) (r : Bool) (w : World) (hr0 : Kd.C (Kd.int .u8) w A0 l0.length l0) (hc0 : l0.length ≤ c0) (hr1 : Kd.C (Kd.int .u8) w A1 l1.length l1) (hc1 : l1.length ≤ c1) (h : secateurref01_SameBytes.f l0 l1 = some r) :
    Calls Tryd.prog 32 #[.slice A0 l0.length c0, .slice A1 l1.length c1] w fun e w' => e = .returned (.bool r) ∧ Drawn0 w w' :=
  Q1.secateurref01_SameBytes.calls (l0.length + 1) A0 c0 l0 A1 c1 l1 r w hr0 hc0 hr1 hc1 ((sameBytes_eq l0 l1 (len_of_C hr0)).trans h)
theorem secateurref01_SameNums.calls (A0 : Option Addr) (c0 : Nat) (l0 : List Int) (A1 : Option Addr) (c1 : Nat) (l1 : List Int) (r : Bool) (w : World) (hr0 : Kd.C (Kd.int .u64) w A0 l0.length l0) (hc0 : l0.length ≤ c0) (hr1 : Kd.C (Kd.int .u64) w A1 l1.length l1) (hc1 : l1.length ≤ c1) (h : secateurref01_SameNums.f l0 l1 = some r) :
    Calls Tryd.prog 113 #[.slice A0 l0.length c0, .slice A1 l1.length c1] w fun e w' => e = .returned (.bool r) ∧ Drawn0 w w' :=
  Q1.secateurref01_SameNums.calls (l0.length + 1) A0 c0 l0 A1 c1 l1 r w hr0 hc0 hr1 hc1 ((sameNums_eq l0 l1 (len_of_C hr0)).trans h)

/-! ### Join -/
def u64B (x : Int) : Bool := decide (0 ≤ x) && decide (x < 18446744073709551616)
theorem u64B_iff {x : Int} : u64B x = true ↔ 0 ≤ x ∧ x < 18446744073709551616 := by simp [u64B]
def lebJoin (l : List Int) : List Int := l.flatMap lebPut
def leb_Join.f (l0 : List Int) : Option (List Int) := if l0.all u64B = true ∧ l0.length ≤ 4194304 then some (lebJoin l0) else none
def secateurref01_Join.f (l0 : List Int) : Option (List Int) := leb_Join.f l0
theorem lebJoin_length_le (l : List Int) : (lebJoin l).length ≤ 10 * l.length := by
  unfold lebJoin
  induction l with
  | nil => simp
  | cons x l ih =>
    rw [List.flatMap_cons, List.length_append, List.length_cons]
    have := lebPut_length_le x
    omega
theorem put_some {x : Int} (h : u64B x = true) : leb_Put.f x = some (lebPut x) := by
  obtain ⟨h0, h1⟩ := u64B_iff.1 h
  unfold leb_Put.f
  rw [if_pos h0, if_pos h1]
theorem all_getD {p : Int → Bool} {l : List Int} (h : l.all p = true) {i : Nat} (hi : i < l.length) : p (l.getD i 0) = true := by
  rw [List.getD, List.getElem?_eq_getElem hi]
  exact List.all_eq_true.1 h _ (List.getElem_mem hi)
theorem join_step (l : List Int) {i : Nat} (h : i < l.length) : lebJoin (l.drop i) = lebPut (l.getD i 0) ++ lebJoin (l.drop (i + 1)) := by
  rw [drop_cons l h]
  simp [lebJoin]
theorem join_loop (l : List Int) (hb : l.all u64B = true) (hm : l.length ≤ 4194304) (d : Nat) : ∀ (k i : Nat) (out : List Int), l.length - i = d → i ≤ l.length → d < k → out.length ≤ 10 * i → Q1.leb_Join.l0 k out l l.length i = some (out ++ lebJoin (l.drop i)) := by
  induction d with
  | zero =>
    intro k i out hd hi hk ho
    obtain ⟨k, rfl⟩ : ∃ m, k = m + 1 := ⟨k - 1, by omega⟩
    simp only [Q1.leb_Join.l0]
    rw [if_neg (by omega), List.drop_of_length_le (by omega)]
    simp [lebJoin]
  | succ d ih =>
    intro k i out hd hi hk ho
    obtain ⟨k, rfl⟩ : ∃ m, k = m + 1 := ⟨k - 1, by omega⟩
    simp only [Q1.leb_Join.l0]
    have hp := lebPut_length_le (l.getD i 0)
    rw [if_pos (by omega), if_pos (by omega), if_pos (by omega), rd_nat, put_some (all_getD hb (by omega)), Option.bind_some, if_pos (by omega), w64 (by omega) (by omega)]
    have ih := ih k (i + 1) (out ++ lebPut (l.getD i 0)) (by omega) (by omega) (by omega) (by rw [List.length_append]; omega)
    push_cast at ih
    rw [ih, join_step l (i := i) (by omega), List.append_assoc]
theorem leb_Join.calls (A0 : Option Addr) (c0 : Nat) (l0 : List Int) (r : List Int) (w : World) (hr0 : Kd.C (Kd.int .u64) w A0 l0.length l0) (hc0 : l0.length ≤ c0) (h : leb_Join.f l0 = some r) :
    Calls Tryd.prog 111 #[.slice A0 l0.length c0] w fun e w' => ∃ v0_ : Value, e = .returned (v0_) ∧ Kd.R (Kd.int .u8) 5 w' w.heap.size (fun _ => True) v0_ r ∧ Below w.heap.size w w' := by
  unfold leb_Join.f at h
  split at h
  · rename_i hg
    exact Q1.leb_Join.calls (l0.length + 1) A0 c0 l0 r w hr0 hc0 ((join_loop l0 hg.1 hg.2 _ _ 0 [] rfl (by omega) (by omega) (by simp)).trans h)
  · cases h
end Go.Proofs.YtjlmliagkfjcgaaDoor.Hand
