import Derived.Test.YtmlbfepibfobaaaDoorProg
import Derived.Below
import Derived.Deep.Draws
import Derived.Deep.AppendLies
import Derived.Maps.AppendAt
import Derived.OwnWalk
import Derived.Laws.BytesArg
import Derived.Laws.MakeOwn
import Derived.Laws.OwnMore
import Derived.Deep.OwnRows
import Derived.Tactics
import Derived.Lib.ConvBytes
import Derived.Laws.Slices
import Derived.WalkKit
import Derived.KernelRfl
import Derived.RowKit3
import Derived.Deep.LoopGhost
import Derived.Deep.QuietTactic
import Derived.BigQuiet
import Derived.WideLaws
import Derived.Deep.DeepCutAuto
import Derived.Deep.CutBlock
import Derived.Deep.RegionHeld3
import Derived.Laws.Rows
import Derived.Lib.AppendStr
import Derived.ArgAppend
import Derived.Laws.IdiomCopy
import Derived.OrdersHeld
import Derived.Laws.BitsLemmas
import Derived.RowKit
import Derived.Lib.Hide
import Derived.Laws.CopyOwn
import Derived.Test.YtmlbfepibfobaaaDoorWWords
import Derived.Test.YtmlbfepibfobaaaDoorWLast
import Derived.Test.YtmlbfepibfobaaaDoorWTab
import Derived.Test.YtmlbfepibfobaaaDoorWFour
import Derived.Test.YtmlbfepibfobaaaDoorWQPut
import Derived.Test.YtmlbfepibfobaaaDoorWApart
import Derived.Test.YtmlbfepibfobaaaDoorWArr
import Derived.Test.YtmlbfepibfobaaaDoorWZeros
import Derived.Test.YtmlbfepibfobaaaDoorWFoot
import Derived.Test.YtmlbfepibfobaaaDoorWKept
import Derived.Test.YtmlbfepibfobaaaDoorWShare
import Derived.Test.YtmlbfepibfobaaaDoorWN
import Derived.Test.YtmlbfepibfobaaaDoorWFootNe
import Derived.Test.YtmlbfepibfobaaaDoorWAt
import Derived.Test.YtmlbfepibfobaaaDoorWEqStruct
import Derived.Test.YtmlbfepibfobaaaDoorWRepsOne
import Derived.Test.YtmlbfepibfobaaaDoorWInv
import Derived.Test.YtmlbfepibfobaaaDoorWInvWords
import Derived.Test.YtmlbfepibfobaaaDoorWGuard
import Derived.Test.YtmlbfepibfobaaaDoorWNEv
import Derived.Test.YtmlbfepibfobaaaDoorWMore
import Derived.Test.YtmlbfepibfobaaaDoorMgTopLines1
import Derived.Laws.Strings
import Derived.Laws.RangeString
import Derived.Laws.RangeAny
import Derived.RangeFuncBound
import Derived.RangeFuncNested
import Derived.RangeFuncCalls
import Derived.RangeFuncLeaves
import Derived.Shelf.Abstract
import Derived.Shelf.RegionOpen
import Derived.OwnWalkIn
import Derived.TacticsInMore
import Derived.LoopNIn
import Derived.LoopIn
import Derived.RangeFuncBox
import Derived.Maps.OwnIn
import Derived.BigRegionIn
import Derived.IntWalk
import Derived.Shelf.Strings.BuilderF
section
namespace Go.Proofs.YtmlbfepibfobaaaDoor.Hand
/-! ### texts as lists of bytes -/
def bl (s : ByteArray) : List UInt8 := s.data.toList
def lb (l : List UInt8) : ByteArray := ⟨l.toArray⟩
@[simp] theorem bl_lb (l : List UInt8) : bl (lb l) = l := rfl
@[simp] theorem lb_bl (s : ByteArray) : lb (bl s) = s := by cases s; simp [lb, bl]
theorem bl_inj {a b : ByteArray} (h : bl a = bl b) : a = b := by rw [← lb_bl a, ← lb_bl b, h]
theorem bl_len (s : ByteArray) : (bl s).length = s.size := by unfold bl; rw [Array.length_toList]; rfl
theorem lb_size (l : List UInt8) : (lb l).size = l.length := rfl
theorem bl_append (a b : ByteArray) : bl (a ++ b) = bl a ++ bl b := by simp [bl, ByteArray.data_append]
theorem bl_nil : bl ⟨#[]⟩ = [] := rfl

/-! ### numbers -/
def digB (b : UInt8) : Bool := decide (48 ≤ b.toNat ∧ b.toNat ≤ 57)
def digC (d : Nat) : UInt8 := UInt8.ofNat (48 + d)
def decR : Nat → Nat → List UInt8
  | 0, _ => []
  | f + 1, n => if n < 10 then [digC n] else digC (n % 10) :: decR f (n / 10)
def decL (n : Nat) : List UInt8 := (decR 20 n).reverse
def digitsL (n : Int) : List UInt8 := if n < 0 then 45 :: decL n.natAbs else decL n.natAbs
def valF (a : Nat) (b : UInt8) : Nat := a * 10 + (b.toNat - 48)
def valL (l : List UInt8) : Nat := l.foldl valF 0
def formB (l : List UInt8) : Bool := !l.isEmpty && (l.head? != some 48 || l == [48]) && l.all digB
def parseL (l : List UInt8) : Int × Int := if formB l = true then (if valL l > 65536 then (0, 12) else ((valL l : Int), 0)) else (0, 1)

theorem dig_of {d : Nat} (h : d < 10) : digB (digC d) = true ∧ (digC d).toNat = 48 + d := by
  have h1 : (digC d).toNat = 48 + d := by unfold digC; rw [UInt8.toNat_ofNat']; omega
  refine ⟨?_, h1⟩
  unfold digB
  rw [h1]
  simp
  omega
theorem decR_dig : ∀ f n, (decR f n).all digB = true
  | 0, _ => rfl
  | f + 1, n => by
    unfold decR
    split
    · rename_i h
      simp [(dig_of h).1]
    · rw [List.all_cons, (dig_of (Nat.mod_lt n (by decide))).1, decR_dig f, Bool.and_self]
theorem foldl_rev (l : List UInt8) : ∀ b, l.reverse.foldl valF b = (l.foldr (fun c a => valF a c) b) := by
  intro b
  rw [List.foldl_reverse]
theorem decR_val : ∀ f n, n < 10 ^ f → (decR f n).foldr (fun c a => valF a c) 0 = n
  | 0, n, h => by simp at h; subst h; rfl
  | f + 1, n, h => by
    unfold decR
    split
    · rename_i h1
      simp [valF, (dig_of h1).2]
    · rename_i h1
      have ih := decR_val f (n / 10) (by rw [Nat.pow_succ] at h; omega)
      rw [List.foldr_cons, ih]
      unfold valF
      rw [(dig_of (Nat.mod_lt n (by decide))).2]
      omega
theorem decL_val {n : Nat} (h : n < 10 ^ 20) : valL (decL n) = n := by
  unfold valL decL
  rw [foldl_rev, decR_val 20 n h]
theorem decR_last : ∀ f n, n < 10 ^ f → 0 < n → ∃ d, (decR f n).getLast? = some (digC d) ∧ 0 < d ∧ d < 10
  | 0, n, h, h0 => by simp at h; omega
  | f + 1, n, h, h0 => by
    unfold decR
    split
    · rename_i h1
      exact ⟨n, rfl, h0, h1⟩
    · rename_i h1
      obtain ⟨d, hd, h2⟩ := decR_last f (n / 10) (by rw [Nat.pow_succ] at h; omega) (by omega)
      refine ⟨d, ?_, h2⟩
      rw [List.getLast?_cons, hd]
      rfl
theorem decL_zero : decL 0 = [48] := rfl
theorem decL_form {n : Nat} (h : n < 10 ^ 20) : formB (decL n) = true := by
  rcases Nat.eq_zero_or_pos n with rfl | h0
  · decide
  · obtain ⟨d, hd, h1, h2⟩ := decR_last 20 n h h0
    have hh : (decL n).head? = some (digC d) := by unfold decL; rw [List.head?_reverse, hd]
    have hne : decL n ≠ [] := by intro e; rw [e] at hh; cases hh
    have hd2 : digC d ≠ 48 := by
      intro e
      have := (dig_of h2).2
      rw [e] at this
      have h3 : (48 : UInt8).toNat = 48 := rfl
      omega
    have hall : (decL n).all digB = true := by unfold decL; rw [List.all_reverse, decR_dig]
    unfold formB
    rw [hh, hall]
    cases hl : decL n with
    | nil => exact absurd hl hne
    | cons x r => simp [bne, hd2]
theorem parse_digits (n : Int) (h0 : -9223372036854775808 ≤ n) (h1 : n ≤ 9223372036854775807) : parseL (digitsL n) = if n < 0 then (0, 1) else if n > 65536 then (0, 12) else (n, 0) := by
  have hb : n.natAbs < 10 ^ 20 := by have : (10 : Nat) ^ 20 = 100000000000000000000 := by decide
                                     omega
  unfold parseL digitsL
  by_cases hn : n < 0
  · rw [if_pos hn, if_pos hn, if_neg]
    unfold formB
    rw [List.all_cons, show digB 45 = false from by decide]
    simp
  · rw [if_neg hn, if_neg hn, if_pos (decL_form hb), decL_val hb]
    by_cases h2 : n > 65536
    · rw [if_pos (by omega), if_pos h2]
    · rw [if_neg (by omega), if_neg h2]
      congr 1
      omega
theorem dig_back {x : UInt8} (h : digB x = true) : digC (x.toNat - 48) = x ∧ x.toNat - 48 < 10 := by
  unfold digB at h
  have h := of_decide_eq_true h
  have e : 48 + (x.toNat - 48) = x.toNat := by omega
  unfold digC
  rw [e]
  exact ⟨by simp, by omega⟩
def valR (r : List UInt8) : Nat := r.foldr (fun c a => valF a c) 0
theorem valR_cons (x : UInt8) (r : List UInt8) : valR (x :: r) = valR r * 10 + (x.toNat - 48) := rfl
theorem valR_pos : ∀ (r : List UInt8), r.all digB = true → r ≠ [] → r.getLast? ≠ some 48 → 0 < valR r
  | [], _, h, _ => absurd rfl h
  | [x], h, _, h1 => by
    rw [valR_cons]
    simp at h h1
    unfold digB at h
    have h := of_decide_eq_true h
    have h3 : x.toNat ≠ 48 := fun e => h1 (UInt8.toNat.inj e)
    omega
  | x :: y :: r, h, _, h1 => by
    rw [valR_cons]
    have := valR_pos (y :: r) (by simp at h ⊢; exact h.2) (by simp) (by rw [List.getLast?_cons_cons] at h1; exact h1)
    omega
theorem decR_back : ∀ (f : Nat) (r : List UInt8), r.all digB = true → r ≠ [] → (r.getLast? ≠ some 48 ∨ r = [48]) → r.length ≤ f → decR f (valR r) = r
  | f, [], _, h, _, _ => absurd rfl h
  | 0, x :: r, _, _, _, h => by simp at h
  | f + 1, [x], h, _, _, _ => by
    simp at h
    have hb := dig_back h
    rw [valR_cons, decR, if_pos (by show 0 * 10 + _ < 10; omega)]
    show [digC (0 * 10 + _)] = _
    rw [Nat.zero_mul, Nat.zero_add, hb.1]
  | f + 1, x :: y :: r, h, _, h1, hf => by
    have hx : digB x = true := by simp at h; exact h.1
    have hy : (y :: r).all digB = true := by simp at h ⊢; exact h.2
    have hl : (y :: r).getLast? ≠ some 48 := by
      rcases h1 with h1 | h1
      · rw [List.getLast?_cons_cons] at h1; exact h1
      · cases h1
    have hp := valR_pos (y :: r) hy (by simp) hl
    have hb := dig_back hx
    have ih := decR_back f (y :: r) hy (by simp) (.inl hl) (by simp at hf ⊢; omega)
    rw [valR_cons, decR, if_neg (by omega)]
    have e1 : (valR (y :: r) * 10 + (x.toNat - 48)) % 10 = x.toNat - 48 := by omega
    have e2 : (valR (y :: r) * 10 + (x.toNat - 48)) / 10 = valR (y :: r) := by omega
    rw [e1, e2, ih, hb.1]
theorem valR_eq (l : List UInt8) : valL l = valR l.reverse := by
  have := foldl_rev l.reverse 0
  rw [List.reverse_reverse] at this
  exact this
theorem valR_ge : ∀ (r : List UInt8), r.all digB = true → r.getLast? ≠ some 48 → r ≠ [] → 10 ^ (r.length - 1) ≤ valR r
  | [], _, _, h => absurd rfl h
  | [x], h, h1, h0 => by have := valR_pos [x] h h0 h1; exact this
  | x :: y :: r, h, h1, _ => by
    have ih := valR_ge (y :: r) (by simp at h ⊢; exact h.2) (by rw [List.getLast?_cons_cons] at h1; exact h1) (by simp)
    rw [valR_cons]
    have e : (x :: y :: r).length - 1 = (y :: r).length - 1 + 1 := by simp
    rw [e, Nat.pow_succ]
    omega
theorem digits_parse (l : List UInt8) (y : Int) (h : parseL l = (y, 0)) : digitsL y = l := by
  unfold parseL at h
  split at h
  · rename_i hf
    split at h
    · have h2 := congrArg Prod.snd h; simp at h2
    · rename_i hv
      have hy : (valL l : Int) = y := congrArg Prod.fst h
      subst hy
      unfold digitsL
      rw [if_neg (by omega), Int.natAbs_natCast]
      unfold formB at hf
      simp only [Bool.and_eq_true, Bool.or_eq_true] at hf
      obtain ⟨⟨h1, h2⟩, h3⟩ := hf
      have hne : l.reverse ≠ [] := by intro e; rw [List.reverse_eq_nil_iff] at e; subst e; cases h1
      have hr : l.reverse.all digB = true := by rw [List.all_reverse, h3]
      have hd : l.reverse.getLast? ≠ some 48 ∨ l.reverse = [48] := by
        rcases h2 with h2 | h2
        · left
          rw [List.getLast?_reverse]
          simpa using h2
        · right
          have : l = [48] := by simpa using h2
          rw [this]
          rfl
      have hlen : l.reverse.length ≤ 20 := by
        rcases hd with hd | hd
        · have hg := valR_ge l.reverse hr hd hne
          rw [← valR_eq] at hg
          rcases Nat.lt_or_ge 20 l.reverse.length with hx | hx
          · have : 10 ^ 20 ≤ 10 ^ (l.reverse.length - 1) := Nat.pow_le_pow_right (by decide) (by omega)
            have e20 : (10 : Nat) ^ 20 = 100000000000000000000 := by decide
            omega
          · exact hx
        · rw [hd]; decide
      unfold decL
      rw [valR_eq, decR_back 20 l.reverse hr hne hd hlen, List.reverse_reverse]
  · have h2 := congrArg Prod.snd h; simp at h2

/-! ### lines -/
def seen (b : UInt8) : Bool := decide (32 ≤ b.toNat ∧ b.toNat ≤ 126)
def lin : List UInt8 → List (List UInt8) → List UInt8 → List (List UInt8) × Int × Int
  | cur, out, [] => if cur = [] then (out, 0, 0) else ([], 1, (out.length : Int) + 1)
  | cur, out, b :: r => if b = 10 then lin [] (out ++ [cur]) r else if seen b = true then lin (cur ++ [b]) out r else ([], 1, (out.length : Int) + 1)
def linesL (s : List UInt8) : List (List UInt8) × Int × Int := if s.length > 65536 then ([], 3, 0) else lin [] [] s
def textL (l : List (List UInt8)) : List UInt8 := l.flatMap (fun s => s ++ [10])
theorem seen_nl {b : UInt8} (h : seen b = true) : b ≠ 10 := by rintro rfl; revert h; decide
theorem lin_line (x : List UInt8) (hx : x.all seen = true) : ∀ (cur : List UInt8) (out : List (List UInt8)) (r : List UInt8), lin cur out (x ++ 10 :: r) = lin [] (out ++ [cur ++ x]) r := by
  induction x with
  | nil => intro cur out r; simp [lin]
  | cons b x ih =>
    intro cur out r
    simp only [List.all_cons, Bool.and_eq_true] at hx
    rw [List.cons_append, lin, if_neg (seen_nl hx.1), if_pos hx.1, ih hx.2]
    simp
theorem textL_cons (x : List UInt8) (l : List (List UInt8)) : textL (x :: l) = x ++ 10 :: textL l := by simp [textL]
theorem textL_append (a b : List (List UInt8)) : textL (a ++ b) = textL a ++ textL b := by simp [textL]
theorem lin_text : ∀ (l : List (List UInt8)), (∀ x ∈ l, x.all seen = true) → ∀ out, lin [] out (textL l) = (out ++ l, 0, 0)
  | [], _, out => by simp [textL, lin]
  | x :: l, h, out => by
    rw [textL_cons, lin_line x (h x (by simp)), lin_text l (fun y hy => h y (by simp [hy]))]
    simp
theorem lines_text (l : List (List UInt8)) (h : ∀ x ∈ l, x.all seen = true) (hn : (textL l).length ≤ 65536) : linesL (textL l) = (l, 0, 0) := by
  unfold linesL
  rw [if_neg (by omega), lin_text l h]
  rfl
theorem lin_back : ∀ (s cur : List UInt8) (out m : List (List UInt8)) (f : Int), lin cur out s = (m, 0, f) → textL out ++ cur ++ s = textL m ∧ f = 0
  | [], cur, out, m, f, h => by
    unfold lin at h
    split at h
    · rename_i hc
      simp at h
      simp [hc, h]
    · simp at h
  | b :: r, cur, out, m, f, h => by
    unfold lin at h
    split at h
    · rename_i hb
      have := lin_back r [] (out ++ [cur]) m f h
      rw [textL_append] at this
      simp [textL] at this ⊢
      rw [hb]
      exact this
    · split at h
      · have := lin_back r (cur ++ [b]) out m f h
        simpa using this
      · simp at h
theorem lines_back (s : List UInt8) (m : List (List UInt8)) (f : Int) (h : linesL s = (m, 0, f)) : textL m = s ∧ f = 0 := by
  unfold linesL at h
  split at h
  · simp at h
  · have := lin_back s [] [] m f h
    simp [textL] at this
    simp [textL, this]
theorem lin_seen : ∀ (s cur : List UInt8) (out m : List (List UInt8)) (f : Int), lin cur out s = (m, 0, f) → cur.all seen = true → (∀ x ∈ out, x.all seen = true) → ∀ x ∈ m, x.all seen = true
  | [], cur, out, m, f, h, hc, ho => by
    unfold lin at h
    split at h
    · simp at h
      rw [← h.1]
      exact ho
    · simp at h
  | b :: r, cur, out, m, f, h, hc, ho => by
    unfold lin at h
    split at h
    · refine lin_seen r [] (out ++ [cur]) m f h rfl ?_
      intro x hx
      simp at hx
      rcases hx with hx | hx
      · exact ho x hx
      · rw [hx]; exact hc
    · split at h
      · rename_i hb
        refine lin_seen r (cur ++ [b]) out m f h ?_ ho
        rw [List.all_append, hc, List.all_cons, hb]
        rfl
      · simp at h

/-! ### fields -/
def fld : List UInt8 → List UInt8 → List (List UInt8)
  | cur, [] => [cur]
  | cur, b :: r => if b = 32 then cur :: fld [] r else fld (cur ++ [b]) r
def fieldsL (s : List UInt8) : List (List UInt8) := fld [] s
def lineL : List (List UInt8) → List UInt8
  | [] => []
  | [x] => x
  | x :: y :: l => x ++ 32 :: lineL (y :: l)
theorem fld_ne : ∀ (s cur : List UInt8), fld cur s ≠ []
  | [], _ => by simp [fld]
  | b :: r, cur => by
    unfold fld
    split
    · simp
    · exact fld_ne r _
theorem lineL_cons (x : List UInt8) (l : List (List UInt8)) (h : l ≠ []) : lineL (x :: l) = x ++ 32 :: lineL l := by
  cases l with
  | nil => exact absurd rfl h
  | cons y l => rfl
theorem line_fld : ∀ (s cur : List UInt8), lineL (fld cur s) = cur ++ s
  | [], cur => by simp [fld, lineL]
  | b :: r, cur => by
    unfold fld
    split
    · rename_i hb
      rw [lineL_cons _ _ (fld_ne _ _), line_fld r [], hb]
      simp
    · rw [line_fld r]
      simp
theorem line_fields (s : List UInt8) : lineL (fieldsL s) = s := line_fld s []
def blank (l : List UInt8) : Bool := l.any (fun b => b == 32)
theorem fld_word : ∀ (x cur r : List UInt8), blank x = false → fld cur (x ++ 32 :: r) = (cur ++ x) :: fld [] r
  | [], cur, r, _ => by simp [fld]
  | b :: x, cur, r, h => by
    unfold blank at h
    simp only [List.any_cons, Bool.or_eq_false_iff] at h
    rw [List.cons_append, fld, if_neg (by simpa using h.1), fld_word x _ r h.2]
    simp
theorem fld_last : ∀ (x cur : List UInt8), blank x = false → fld cur x = [cur ++ x]
  | [], cur, _ => by simp [fld]
  | b :: x, cur, h => by
    unfold blank at h
    simp only [List.any_cons, Bool.or_eq_false_iff] at h
    rw [fld, if_neg (by simpa using h.1), fld_last x _ h.2]
    simp
theorem fields_line : ∀ (l : List (List UInt8)), l ≠ [] → (∀ x ∈ l, blank x = false) → fieldsL (lineL l) = l
  | [], h, _ => absurd rfl h
  | [x], _, h => by unfold fieldsL lineL; rw [fld_last x [] (h x (by simp))]; simp
  | x :: y :: l, _, h => by
    have ih := fields_line (y :: l) (by simp) (fun z hz => h z (by simp only [List.mem_cons] at hz ⊢; right; exact hz))
    unfold fieldsL at ih ⊢
    rw [lineL_cons _ _ (by simp), fld_word x [] _ (h x (by simp)), ih]
    simp
end Go.Proofs.YtmlbfepibfobaaaDoor.Hand
end

section
namespace Go.Proofs.YtmlbfepibfobaaaDoor.Hand
open Go.RowKit Go.Proofs.YtmlbfepibfobaaaDoorW.PrintWords Go.Proofs.YtmlbfepibfobaaaDoorW.PrintLast Go.Proofs.YtmlbfepibfobaaaDoorW.PrintMore
set_option linter.unusedVariables false
set_option linter.unusedSimpArgs false

/- What the texts on lines ask of those on words (HWordA, HWordC, HWordE, HKindM say the same: never import both). -/
theorem wrap_in {x : Int} (h0 : -9223372036854775808 ≤ x) (h1 : x < 9223372036854775808) : wrap64 x = x := by
  unfold wrap64
  omega
theorem get_data (s : ByteArray) (i : Nat) (h : i < s.size) : s.data.toList[i]'(by rw [Array.length_toList]; exact h) = s[i] := by
  rw [Array.getElem_toList]; rfl
theorem drop_data (s : ByteArray) (i : Nat) (h : i < s.size) : s.data.toList.drop i = s[i] :: s.data.toList.drop (i + 1) := by
  rw [List.drop_eq_getElem_cons (by rw [Array.length_toList]; exact h), get_data s i h]
theorem bt_nat (s : ByteArray) (i : Nat) (h : i < s.size) : bt s (i : Int) = (s[i].toNat : Int) := by
  unfold bt
  rw [dif_pos (by simpa using h)]
  rfl
theorem bt_bl (s : ByteArray) (i : Nat) (h : i < s.size) : ∃ b, (bl s)[i]? = some b ∧ bt s i = (b.toNat : Int) ∧ (bl s).drop i = b :: (bl s).drop (i + 1) := by
  refine ⟨s[i], ?_, bt_nat s i h, drop_data s i h⟩
  unfold bl
  rw [List.getElem?_eq_getElem (by rw [Array.length_toList]; exact h), get_data s i h]
theorem isEmpty_bl (s : ByteArray) : (bl s).isEmpty = decide (s.size = 0) := by
  rw [Bool.eq_iff_iff, List.isEmpty_iff, decide_eq_true_iff, ← bl_len, List.length_eq_zero_iff]
/-- What stands ahead of a byte's first place, and behind it. -/
def untilL (b : UInt8) : List UInt8 → Option (List UInt8 × List UInt8)
  | [] => none
  | x :: r => if x = b then some ([], r) else (untilL b r).map fun p => (x :: p.1, p.2)
theorem until_append {b : UInt8} : ∀ (n r : List UInt8), b ∉ n → untilL b (n ++ b :: r) = some (n, r)
  | [], r, _ => by simp [untilL]
  | x :: n, r, h => by
    simp only [List.mem_cons, not_or] at h
    rw [List.cons_append, untilL, if_neg (fun e => h.1 e.symm), until_append n r h.2]
    rfl
theorem until_some {b : UInt8} : ∀ (l n r : List UInt8), untilL b l = some (n, r) → l = n ++ b :: r ∧ b ∉ n
  | [], n, r, h => by simp [untilL] at h
  | x :: l, n, r, h => by
    unfold untilL at h
    split at h
    · rename_i e
      simp at h
      obtain ⟨rfl, rfl⟩ := h
      simp [e]
    · rename_i hx
      obtain ⟨⟨a, b'⟩, h1, h2⟩ := Option.map_eq_some_iff.1 h
      simp at h2
      obtain ⟨rfl, rfl⟩ := h2
      obtain ⟨h3, h4⟩ := until_some l a b' h1
      refine ⟨by rw [h3]; rfl, ?_⟩
      simp only [List.mem_cons, not_or]
      exact ⟨fun e => hx e.symm, h4⟩
theorem until_none {b : UInt8} : ∀ (l : List UInt8), untilL b l = none ↔ b ∉ l
  | [] => by simp [untilL]
  | x :: l => by
    unfold untilL
    by_cases h : x = b
    · simp [h]
    · rw [if_neg h, Option.map_eq_none_iff, until_none l]
      simp only [List.mem_cons, not_or]
      exact ⟨fun h2 => ⟨fun e => h e.symm, h2⟩, fun h2 => h2.2⟩
end Go.Proofs.YtmlbfepibfobaaaDoor.Hand
end

section
namespace Go.Proofs.YtmlbfepibfobaaaDoor.Hand
open Go.RowKit Go.Proofs.YtmlbfepibfobaaaDoorW.PrintWords Go.Proofs.YtmlbfepibfobaaaDoorW.PrintLast Go.Proofs.YtmlbfepibfobaaaDoorW.PrintMore
set_option linter.unusedVariables false
set_option linter.unusedSimpArgs false

/-! ### word.plain -/
def oddR (x : Nat) : Bool := decide (x < 32) || decide (126 < x)
theorem plain_idx (s : ByteArray) : ∀ (f pos : Nat), s.size - pos ≤ f → (Lib.idxFuncFrom oddR true s f pos < 0 ↔ ((bl s).drop pos).all seen = true) := by
  intro f
  induction f with
  | zero =>
    intro pos h
    rw [List.drop_of_length_le (by rw [bl_len]; omega)]
    simp [Lib.idxFuncFrom]
  | succ f ih =>
    intro pos h
    by_cases hp : pos < s.size
    · obtain ⟨b, hb1, hb2, hdr⟩ := bt_bl s pos hp
      have hbs : s[pos].toNat = b.toNat := by have := bt_nat s pos hp; rw [hb2] at this; omega
      rw [Lib.idxFuncFrom, if_pos hp, hdr, List.all_cons]
      by_cases ha : b.toNat < 128
      · have hd := decode_ascii s pos hp (by rw [hbs]; exact ha)
        rw [hd, hbs]
        by_cases ho : oddR b.toNat = true
        · rw [if_pos ho]
          have : seen b = false := by
            unfold oddR at ho
            unfold seen
            simp at ho ⊢
            omega
          rw [this]
          simp
        · rw [if_neg ho]
          have : seen b = true := by
            unfold oddR at ho
            unfold seen
            simp at ho ⊢
            omega
          rw [this, Bool.true_and]
          exact ih (pos + 1) (by omega)
      · have hd := (decode_high s pos hp (by rw [hbs]; omega)).1
        have ho : oddR (Utf8.decode s pos).1 = true := by unfold oddR; simp; omega
        have : seen b = false := by unfold seen; simp; omega
        rw [if_pos ho, this]
        simp
    · rw [Lib.idxFuncFrom, if_neg hp, List.drop_of_length_le (by rw [bl_len]; omega)]
      simp
theorem plain_iff (s : ByteArray) : decide (Lib.idxFunc oddR true s < 0) = (bl s).all seen := by
  have := plain_idx s s.size 0 (by omega)
  rw [List.drop_zero] at this
  rw [Bool.eq_iff_iff, decide_eq_true_iff]
  exact this
set_option maxHeartbeats 8000000 in
set_option maxRecDepth 100000 in
theorem plain_pred (w : World) : PredAt Tryd.prog 131 #[] encR oddR w := fun W r _ => by
  unfold FnGives
  show Calls Tryd.prog 131 #[.int .i32 (r : Int)] W _
  by_cases h1 : r < 32
  · have hv : Aside0 (oddR r = true) := ⟨by unfold oddR; simp; omega⟩
    have h2 : decide ((r : Int) < 32) = true := decide_eq_true (by omega)
    clear h1
    go_enter Tryd.func131, Tryd.ntmps131
    go_wp2
    go_ret
    exact ⟨by rw [hv.out]; rfl, 0, rfl⟩
  · have h2 : decide ((r : Int) < 32) = false := decide_eq_false (by omega)
    by_cases h3 : 126 < r
    · have hv : Aside0 (oddR r = true) := ⟨by unfold oddR; simp; omega⟩
      have h4 : decide ((126 : Int) < (r : Int)) = true := decide_eq_true (by omega)
      clear h1 h3
      go_enter Tryd.func131, Tryd.ntmps131
      go_wp2
      go_ret
      exact ⟨by rw [hv.out]; rfl, 0, rfl⟩
    · have hv : Aside0 (oddR r = false) := ⟨by unfold oddR; simp; omega⟩
      have h4 : decide ((126 : Int) < (r : Int)) = false := decide_eq_false (by omega)
      clear h1 h3
      go_enter Tryd.func131, Tryd.ntmps131
      go_wp2
      go_ret
      exact ⟨by rw [hv.out]; rfl, 0, rfl⟩
def word_plain.f (s : ByteArray) : Option Bool := some ((bl s).all seen)
set_option maxHeartbeats 8000000 in
set_option maxRecDepth 100000 in
theorem word_plain.calls (a0 : ByteArray) (r : Bool) (w : World) (h : word_plain.f a0 = some r) :
    Calls Tryd.prog 102 #[.string a0] w fun e w' => e = .returned (.bool r) ∧ Below w.heap.size w w' := by
  obtain rfl := Option.some.inj h
  clear h
  have HW := Aside0.mk (Tryd.strings_IndexFunc 131 #[] (by intro args w; rfl) oddR a0 w (plain_pred w))
  have HV := Aside0.mk (plain_iff a0)
  obtain ⟨x, hx⟩ : ∃ x, x = Lib.idxFunc oddR true a0 := ⟨_, rfl⟩
  rw [← hx] at HW HV
  clear hx
  go_enter Tryd.func102, Tryd.ntmps102
  go_wp2_with fail
  refine HW.out.mono ?_
  rintro e w1 ⟨rfl, hb⟩
  go_wp2
  go_ret
  exact ⟨by rw [← HV.out]; rfl, hb⟩
end Go.Proofs.YtmlbfepibfobaaaDoor.Hand
end

section
namespace Go.Proofs.YtmlbfepibfobaaaDoor.Hand
open Go.RowKit Go.Shelf
variable {F : Fence} {n : Nat} {P : Program} {α : Type}

/-! ### A range over a function that keeps a variable of its own in a box -/
/-- What the blocks of K hold is as it was. -/
def SameBlk (K : Nat → Prop) (X Y : World) : Prop := ∀ i, K i → Y.heap[i]? = X.heap[i]?
/-- A list's state abides whatever turns block b alone, and lays new ones. -/
def Holds {β : Type} (b : Nat) (J : β → World → Prop) : Prop := ∀ s X Y, J s X → X.grownBy Y (some b) → J s Y
/-- The iterator gf: between two rounds it turns its box b alone; a round that goes on leaves the blocks of K as they are. -/
def SeqBox (F : Fence) (n : Nat) (P : Program) (gf : Nat) (lb : Array Value) (encs : α → Array Value) (b N : Nat) (K : Nat → Prop) (A0 : World → Prop) (S Sp : List α → Prop) : Prop :=
  ∀ (l : Nat) (J Jx : List α → World → Prop) (W : World), A0 W → Holds b J → Holds b Jx →
    (∀ pre x X, J pre X → pre.length < N → YieldAt F (n - 1) P l (encs x) X fun e Y =>
      (e = .returned (.bool true) ∧ J (pre ++ [x]) Y ∧ SameBlk K X Y) ∨ (e = .returned (.bool false) ∧ Jx (pre ++ [x]) Y)) →
    J [] W →
    CallsIn F n P gf (#[.func (.yield l) #[] #[]] ++ lb) W fun e Y => (∃ v, e = .returned v) ∧ ((∃ xs, S xs ∧ J xs Y) ∨ (∃ pre, Sp pre ∧ Jx pre Y))
/-- The caller's state abides the loop's book-keeping (from block B on), too. -/
def HoldsAll {β : Type} (B b : Nat) (J : β → World → Prop) : Prop :=
  ∀ s X Y row, J s X → X.grownBy Y row → (∀ r, row = some r → r = b ∨ (B ≤ r ∧ ∃ o : Obj, X.heap[r]? = some o ∧ o.isCells = false)) → J s Y
theorem HoldsAll.box {β : Type} {B b : Nat} {J : β → World → Prop} (h : HoldsAll B b J) : Holds b J := fun s X Y hs hg => h s X Y _ hs hg (fun r e => .inl (by cases e; rfl))
theorem HoldsAll.put {β : Type} {B b : Nat} {J : β → World → Prop} (h : HoldsAll B b J) {s : β} {W : World} {l : Nat} {o : Obj} (o' : Obj) (hs : J s W) (hB : B ≤ l) (hl : W.heap[l]? = some o) (ho : o.isCells = false) : J s (W.putObj l o') :=
  h s W _ (some l) hs (grownBy_putObj' W l o') (fun r e => by cases e; exact .inr ⟨hB, o, hl, ho⟩)
theorem HoldsAll.lay {β : Type} {B b : Nat} {J : β → World → Prop} (h : HoldsAll B b J) {s : β} {W : World} (o : Obj) (hs : J s W) : J s (W.alloc o) :=
  h s W _ none hs (World.grownBy_alloc W o none) (fun r e => by cases e)

theorem range_box {g : Operand} {ps : Array Tmp} {assign body : Code} {Q : Exit → Act → World → Prop} {a : Act} {w : World}
    (hro : F.round = none) (h1 : 1 ≤ n) {gf : Nat} {lb : Array Value} (hg : a.eval g = .func (.func gf) #[] lb) (hFg : F.fn gf) (eg : ∀ args w, (callFunc gf args).run P w = .ok (.enter gf args) w)
    {encs : α → Array Value} (hps : ∀ x, (encs x).size = ps.size) {b N : Nat} (hb : b < w.heap.size) {Kb : Nat → Prop} (hKb : ∀ i, Kb i → i < w.heap.size) {A0 : World → Prop} {S Sp : List α → Prop} (hseq : SeqBox F (n - 1) P gf lb encs b N Kb A0 S Sp)
    (hA : ∀ W, Below w.heap.size w W → A0 W)
    (I : List α → World → Prop) (Ix : Code → List α → World → Prop) (hI : HoldsAll w.heap.size b I) (hIx : ∀ c, HoldsAll w.heap.size b (Ix c)) (h0 : I [] w) (a₁ : α → Act)
    (hassign : ∀ (l : Nat) (x : α) (W : World) (K : Act → World → Prop), K (a₁ x) W →
      assign.wpIn (F.inRound l) (n - 1 - 1) P (Exit.then K (fun _ _ _ => False)) { tmps := (ps.zip (encs x)).foldl (fun t (p, v) => t.setIfInBounds p v) a.tmps, defers := [] } W)
    (hbody : ∀ (l : Nat) (pre : List α) (x : α) (W : World), I pre W → pre.length < N → body.wpIn (F.inRound l) (n - 1 - 1) P (ownPostK (SameBlk Kb) I Ix (pre ++ [x]) W) (a₁ x) W)
    (hdone : ∀ (D : Nat) (xs : List α) (W : World), w.heap.size ≤ D → S xs → I xs W → W.heap[D]? = some (.deferred (some [])) → Q .normal { a with defers := { target := .collected D, args := #[] } :: a.defers } W)
    (hstop : ∀ (D : Nat) (c : Code) (pre : List α) (W : World), w.heap.size ≤ D → Sp pre → Ix c pre W → W.heap[D]? = some (.deferred (some [])) → c.wpIn F n P Q { a with defers := { target := .collected D, args := #[] } :: a.defers } W) :
    (Code.rangeFunc g ps assign body).wpIn F n P Q a w := by
  refine wpIn_rangeFunc fun fn hfn => ?_
  rw [hro]
  let R0 : Loop := { state := .ready, pending := none, fn := fn, tmps := a.tmps, params := ps, assign := assign, body := body, defers := w.heap.size }
  obtain ⟨R, hR⟩ : ∃ R : Loop, R = R0 := ⟨_, rfl⟩
  obtain ⟨L, hL⟩ : ∃ L, L = w.heap.size + 1 := ⟨_, rfl⟩
  obtain ⟨W1, hW1⟩ : ∃ W1, W1 = (w.alloc (.deferred (some []))).alloc (.loop R) := ⟨_, rfl⟩
  have hbk : Below w.heap.size w W1 := hW1 ▸ ((Below.refl _ w).alloc (Nat.le_refl _) _).alloc (by simp) _
  have hLoop : W1.heap[L]? = some (.loop R) := by
    have := World.alloc_heap_new (w.alloc (.deferred (some []))) (.loop R)
    rw [World.size_alloc] at this
    rw [hW1, hL]
    exact this
  have hDef : W1.heap[w.heap.size]? = some (.deferred (some [])) := by
    rw [hW1]
    exact (Below.heap_alloc _ _ _ (by simp)).trans (World.alloc_heap_new w _)
  have hI1 : I [] W1 := hW1 ▸ hI.lay _ (hI.lay _ h0)
  -- what the loop's book-keeping keeps between two rounds, and behind the last one
  let Between : List α → World → Prop := fun pre X => I pre X ∧ X.heap[L]? = some (.loop R) ∧ X.heap[w.heap.size]? = some (.deferred (some []))
  let Behind : List α → World → Prop := fun pre X => ∃ c, Ix c pre X ∧ X.heap[L]? = some (.loop { R with state := .done, pending := some c }) ∧ X.heap[w.heap.size]? = some (.deferred (some []))
  have far : ∀ {X Y : World} {i : Nat} {o : Obj}, X.grownBy Y (some b) → w.heap.size ≤ i → X.heap[i]? = some o → Y.heap[i]? = some o := fun hg hi ho =>
    (hg.block _ (Array.getElem?_eq_some_iff.1 ho).1 (fun e => by cases e; omega)).trans ho
  have hB1 : Holds b Between := fun s X Y hs hg => ⟨hI.box s X Y hs.1 hg, far hg (by omega) hs.2.1, far hg (Nat.le_refl _) hs.2.2⟩
  have hB2 : Holds b Behind := fun s X Y ⟨c, hc, hl, hd⟩ hg => ⟨c, (hIx c).box s X Y hc hg, far hg (by omega) hl, far hg (Nat.le_refl _) hd⟩
  refine ⟨L, [{ target := .collected w.heap.size, args := #[] }], W1, { target := .fn (.func gf) lb, args := #[.func (.yield L) #[] #[]] }, W1, gf, #[.func (.yield L) #[] #[]] ++ lb, W1, ?_, ?_, ?_, ?_, fun _ => h1, ?_⟩
  · rw [hW1, hL, hR]
    exact run_enterLoop_outer _ _ _ _ _
  · simp only [resolve, hg]
    simp [go_sem]
  · intro f' hf'
    simp [Target.leads] at hf'
    exact hf' ▸ hFg
  · simp [invoke, go_sem, eg]
  refine (hseq L Between Behind W1 (hA W1 hbk) hB1 hB2 ?_ ⟨hI1, hLoop, hDef⟩).mono ?_
  · -- a round
    rintro pre x X ⟨hi, hl, hd⟩ hN
    have hy := run_yield (P := P) (args := encs x) hl (by rw [hR]; exact hps x)
    have hfn' : R.fn = fn := by rw [hR]
    refine ⟨_, _, _, _, hy, roundIn_of_wpIn (by rw [hfn']; exact hfn) ?_⟩
    have e1 : R.assign = assign := by rw [hR]
    have e2 : R.params = ps := by rw [hR]
    have e3 : R.tmps = a.tmps := by rw [hR]
    have e4 : R.body = body := by rw [hR]
    have e5 : R.state = .ready := by rw [hR]
    rw [e1, e2, e3, e4]
    refine hassign L x X _ ⟨_, run_beginRound hl e5, ?_⟩
    have hlt : L < X.heap.size := (Array.getElem?_eq_some_iff.1 hl).1
    obtain ⟨Z, hZ⟩ : ∃ Z, Z = X.putObj L (.loop { R with state := .busy }) := ⟨_, rfl⟩
    have hlZ : Z.heap[L]? = some (.loop { R with state := .busy }) := by rw [hZ]; exact World.putObj_heap_same hlt
    have hdZ : Z.heap[w.heap.size]? = some (.deferred (some [])) := by rw [hZ]; exact (World.putObj_heap_other (by omega)).trans hd
    have hbZ : SameBlk Kb X Z := fun i hi => by have := hKb i hi; rw [hZ]; exact World.putObj_heap_other (by omega)
    have hiZ : I pre Z := by rw [hZ]; exact hI.put _ hi (by omega) hl rfl
    rw [← hZ]
    refine wpIn_mono (hbody L pre x Z hiZ hN) ?_
    have ends : ∀ (j : Option Code) (Y : World), KeepsOthers Z Y → Y.heap[L]? = some (.loop { R with state := .busy }) ∧
        (Instr.endRound L j).run P Y = .ok (.bool j.isNone) (Y.putObj L (.loop { R with state := if j.isNone then .ready else .done, pending := j })) ∧
        (Y.putObj L (.loop { R with state := if j.isNone then .ready else .done, pending := j })).heap[L]? = some (.loop { R with state := if j.isNone then .ready else .done, pending := j }) ∧
        (Y.putObj L (.loop { R with state := if j.isNone then .ready else .done, pending := j })).heap[w.heap.size]? = some (.deferred (some [])) := fun j Y hk => by
      have hlY := hk.same _ _ hlZ rfl
      refine ⟨hlY, ?_, World.putObj_heap_same (Array.getElem?_eq_some_iff.1 hlY).1, (World.putObj_heap_other (by omega)).trans (hk.same _ _ hdZ rfl)⟩
      exact run_endRound (P := P) (r := { R with state := .busy }) j hlY
    have left : ∀ (c : Code) (Y : World), KeepsOthers Z Y → Ix c (pre ++ [x]) Y → ∃ v W', (Instr.endRound L (some c)).run P Y = .ok v W' ∧
        ((Ending.returned v = .returned (.bool true) ∧ Between (pre ++ [x]) W' ∧ SameBlk Kb X W') ∨ (Ending.returned v = .returned (.bool false) ∧ Behind (pre ++ [x]) W')) := fun c Y hk hx => by
      obtain ⟨hlY, hr, hl2, hd2⟩ := ends (some c) Y hk
      exact ⟨_, _, hr, .inr ⟨rfl, c, (hIx c).put _ hx (by omega) hlY rfl, hl2, hd2⟩⟩
    rintro e a3 Y hp
    cases e with
    | normal =>
      obtain ⟨hk, hs, hi3⟩ := hp
      obtain ⟨hlY, hr, hl2, hd2⟩ := ends none Y hk
      have e6 : ({ R with state := .ready, pending := none } : Loop) = R := by rw [hR]
      simp only [Option.isNone_none, if_true, e6] at hr hl2 hd2
      exact ⟨_, _, hr, .inl ⟨rfl, ⟨hI.put _ hi3 (by omega) hlY rfl, hl2, hd2⟩, fun i hi => by have h2 := hKb i hi; exact (World.putObj_heap_other (by omega)).trans ((hs i hi).trans (hbZ i hi))⟩⟩
    | ret => exact left .ret Y hp.1 hp.2
    | exit id => exact left (.exit id) Y hp.1 hp.2
    | goto t => exact left (.goto t) Y hp.1 hp.2
    | panic ch => exact hp.elim
    | outgrown => exact hp.elim
  · rintro e Y ⟨⟨v, rfl⟩, (⟨xs, hS, hi, hl, hd⟩ | ⟨pre, hSp, c, hx, hl, hd⟩)⟩
    · have e5 : R.state ≠ .busy := by rw [hR]; simp [R0]
      have e7 : R.pending = none := by rw [hR]
      have := run_endLoop (P := P) hl e5
      rw [e7] at this
      exact ⟨none, _, this, hdone _ xs _ (Nat.le_refl _) hS (hI.put _ hi (by omega) hl rfl) ((World.putObj_heap_other (by omega)).trans hd)⟩
    · exact ⟨some c, _, run_endLoop (P := P) hl (by simp), hstop _ c pre _ (Nat.le_refl _) hSp ((hIx c).put _ hx (by omega) hl rfl) ((World.putObj_heap_other (by omega)).trans hd)⟩
end Go.Proofs.YtmlbfepibfobaaaDoor.Hand
end

section
namespace Go.Proofs.YtmlbfepibfobaaaDoor.Hand
open Go.RowKit Go.Shelf Go.Proofs.YtmlbfepibfobaaaDoorW.PrintWords Go.Proofs.YtmlbfepibfobaaaDoorW.PrintLast Go.Proofs.YtmlbfepibfobaaaDoorW.PrintMore
set_option linter.unusedVariables false
set_option linter.unusedSimpArgs false

/-! ### strings.Cut at one byte -/
theorem cut_until (c : UInt8) : ∀ l : List UInt8, Lib.cut l [c] = match untilL c l with | some (n, r) => (n, r, true) | none => (l, [], false)
  | [] => by simp [Lib.cut, Lib.index, untilL]
  | b :: l => by
    have ih := cut_until c l
    have hge := Lib.index_ge l [c]
    unfold Lib.cut at ih ⊢
    rw [Lib.index]
    by_cases h : b = c
    · subst h
      have : List.isPrefixOf [b] (b :: l) = true := by simp [List.isPrefixOf]
      rw [if_pos this]
      simp [untilL]
    · have hp : List.isPrefixOf [c] (b :: l) = false := by simp [List.isPrefixOf]; exact fun e => h e.symm
      rw [hp]
      simp only [Bool.false_eq_true, if_false]
      by_cases hi : Lib.index l [c] = -1
      · rw [hi] at ih ⊢
        simp only [beq_self_eq_true, if_true] at ih ⊢
        rw [if_neg (by decide)] at ih
        rw [if_neg (by decide)]
        cases hu : untilL c l with
        | none => rw [untilL, if_neg h, hu]; rfl
        | some p => rw [hu] at ih; simp at ih
      · have hb : (Lib.index l [c] == -1) = false := beq_eq_false_iff_ne.2 hi
        rw [hb]
        simp only [Bool.false_eq_true, if_false]
        rw [if_pos (by omega)] at ih
        rw [if_pos (by omega)]
        cases hu : untilL c l with
        | none => rw [hu] at ih; simp at ih
        | some p =>
          rw [hu] at ih
          simp only [Prod.mk.injEq, and_true] at ih
          rw [untilL, if_neg h, hu]
          have e : (Lib.index l [c] + 1).toNat = (Lib.index l [c]).toNat + 1 := by omega
          simp only [Option.map_some, Prod.mk.injEq, and_true]
          rw [e, List.take_succ_cons, ih.1]
          refine ⟨rfl, ?_⟩
          rw [show (Lib.index l [c]).toNat + 1 + [c].length = ((Lib.index l [c]).toNat + [c].length) + 1 from by omega, List.drop_succ_cons]
          exact ih.2

/-! ### a text's lines, one behind the other -/
def segsF : Nat → List UInt8 → List (ByteArray × Bool)
  | 0, _ => []
  | f + 1, l => if l = [] then [] else match untilL 10 l with
    | some (x, r) => (lb x, true) :: segsF f r
    | none => [(lb l, false)]
def goodS (x : ByteArray × Bool) : Bool := x.2 && (bl x.1).all seen
def runS : List ByteArray → List (ByteArray × Bool) → List ByteArray × Int × Int
  | out, [] => (out, 0, 0)
  | out, x :: r => if goodS x = true then runS (out ++ [x.1]) r else ([], 1, (out.length : Int) + 1)
theorem lin_seg (x : List UInt8) : ∀ (cur : List UInt8) (out : List (List UInt8)) (r : List UInt8), 10 ∉ x → lin cur out (x ++ 10 :: r) = if x.all seen = true then lin [] (out ++ [cur ++ x]) r else ([], 1, (out.length : Int) + 1) := by
  induction x with
  | nil => intro cur out r _; simp [lin]
  | cons b x ih =>
    intro cur out r h
    simp only [List.mem_cons, not_or] at h
    rw [List.cons_append, lin, if_neg (fun e => h.1 e.symm), List.all_cons]
    by_cases hb : seen b = true
    · rw [if_pos hb, ih _ _ _ h.2, hb, Bool.true_and]
      simp
    · rw [if_neg hb, if_neg]
      simp [hb]
theorem lin_last (x : List UInt8) : ∀ (cur : List UInt8) (out : List (List UInt8)), 10 ∉ x → (cur ≠ [] ∨ x ≠ []) → lin cur out x = ([], 1, (out.length : Int) + 1) := by
  induction x with
  | nil => intro cur out _ h; rw [lin, if_neg (by rcases h with h | h; exact h; exact absurd rfl h)]
  | cons b x ih =>
    intro cur out h _
    simp only [List.mem_cons, not_or] at h
    rw [lin, if_neg (fun e => h.1 e.symm)]
    by_cases hb : seen b = true
    · rw [if_pos hb, ih _ _ h.2 (.inl (by simp))]
    · rw [if_neg hb]
theorem run_segs : ∀ (f : Nat) (l : List UInt8) (out : List (List UInt8)), l.length ≤ f → runS (out.map lb) (segsF f l) = (((lin [] out l).1).map lb, (lin [] out l).2)
  | 0, l, out, h => by
    have : l = [] := List.length_eq_zero_iff.1 (by omega)
    subst this
    simp [segsF, runS, lin]
  | f + 1, l, out, h => by
    unfold segsF
    by_cases hl : l = []
    · subst hl; simp [runS, lin]
    · rw [if_neg hl]
      cases hu : untilL 10 l with
      | none =>
        have hn := (until_none l).1 hu
        rw [lin_last l [] out hn (.inr hl)]
        simp [runS, goodS]
      | some p =>
        obtain ⟨x, r⟩ := p
        obtain ⟨e, hx⟩ := until_some l x r hu
        have hr : r.length ≤ f := by rw [e] at h; simp at h; omega
        rw [e, lin_seg x [] out r hx]
        simp only [runS, goodS, bl_lb, Bool.true_and]
        by_cases ha : x.all seen = true
        · rw [if_pos ha, if_pos ha]
          have := run_segs f r (out ++ [x]) hr
          rw [List.map_append] at this
          exact this
        · rw [if_neg ha, if_neg ha]
          simp
/-- What package-level variable internal/bytealg.MaxLen holds. -/
def MaxL (w : World) : Prop := ∃ m, w.cell? ⟨0, 0, none⟩ = some (.int .i64 m)
end Go.Proofs.YtmlbfepibfobaaaDoor.Hand
end

section
namespace Go.Proofs.YtmlbfepibfobaaaDoor.Hand
open Go.RowKit Go.Shelf Go.Proofs.YtmlbfepibfobaaaDoorW.PrintWords Go.Proofs.YtmlbfepibfobaaaDoorW.PrintLast Go.Proofs.YtmlbfepibfobaaaDoorW.PrintMore
set_option linter.unusedVariables false
set_option linter.unusedSimpArgs false
attribute [local go_sem] Oper.semAt_some

abbrev encS (x : ByteArray × Bool) : Array Value := #[.string x.1, .bool x.2]
def leftB (b : Nat) (w : World) : Nat := match w.cell? ⟨b, 0, none⟩ with | some (.string r) => r.size | _ => 0
theorem leftB_eq {b : Nat} {w : World} {r : ByteArray} {t : TypeId} (h : Boxed w b t (.string r)) : leftB b w = r.size := by
  unfold leftB
  rw [h.cell]
def segOf (r : ByteArray) : ByteArray × Bool := (⟨(Lib.cut r.data.toList [10]).1.toArray⟩, (Lib.cut r.data.toList [10]).2.2)
def restOf (r : ByteArray) : ByteArray := ⟨(Lib.cut r.data.toList [10]).2.1.toArray⟩
theorem segs_step (r : ByteArray) (hr : r.size ≠ 0) (f : Nat) (hf : r.size ≤ f + 1) : segsF (f + 1) (bl r) = segOf r :: segsF f (bl (restOf r)) ∧ (restOf r).size ≤ f := by
  have hne : bl r ≠ [] := by intro e; apply hr; rw [← bl_len, e]; rfl
  unfold segOf restOf
  rw [segsF, if_neg hne, show r.data.toList = bl r from rfl, cut_until]
  cases hu : untilL 10 (bl r) with
  | none =>
    refine ⟨?_, Nat.zero_le _⟩
    cases f with
    | zero => rfl
    | succ f => simp only [segsF]; rfl
  | some p =>
    obtain ⟨x, q⟩ := p
    obtain ⟨e, _⟩ := until_some _ x q hu
    refine ⟨rfl, ?_⟩
    have := bl_len r
    rw [e] at this
    simp at this
    show q.length ≤ f
    omega
theorem max_same {K : Nat → Prop} {X Y : World} (h : MaxL X) (hs : SameBlk K X Y) (hk : K 0) : MaxL Y := by
  obtain ⟨m, hm⟩ := h
  refine ⟨m, ?_⟩
  have := hs _ hk
  unfold World.cell? at hm ⊢
  rw [this]
  exact hm
theorem max_below {w w' : World} (h : MaxL w) (hb : Below w.heap.size w w') : MaxL w' := by
  obtain ⟨m, hm⟩ := h
  exact ⟨m, pw_cell_below hb hm⟩
theorem MaxL.below {w w' : World} (h : MaxL w) (hb : Below w.heap.size w w') : MaxL w' := max_below h hb
theorem MaxL.drawn {w w' : World} (h : MaxL w) (hd : Drawn0 w w') : MaxL w' := max_below h hd.below
theorem max_set {w : World} {b : Nat} (h : MaxL w) (hb : b ≠ 0) (v : Value) : MaxL (w.setCell ⟨b, 0, none⟩ v) := by
  obtain ⟨m, hm⟩ := h
  refine ⟨m, ?_⟩
  rw [World.cell?_setCell_other]
  · exact hm
  · intro e; cases e; exact hb rfl
theorem grown_drewN (w : World) (n b : Nat) : w.grownBy (w.drewN n) (some b) := grown_of_below (pw_below_drewN (Below.refl _ w) n) _
set_option maxHeartbeats 8000000 in
set_option maxRecDepth 100000 in
theorem each_seq (n : Nat) (s : ByteArray) (b : Nat) (hs : s.size < 4294967281) :
    SeqBox Fence.wide n Tryd.prog 128 #[.pointer (some ⟨b, 0, none⟩)] encS b (s.size + 1) (fun i => i = b ∨ i = 0) (fun W => Boxed W b 9 (.string s) ∧ MaxL W)
      (fun xs => xs = segsF s.size (bl s)) (fun pre => pre <+: segsF s.size (bl s)) := fun l J Jx W hA hJ hJx hY h0 => by
  obtain ⟨hbox, hmax⟩ := hA
  have hb0 : b ≠ 0 := by
    rintro rfl
    obtain ⟨m, hm⟩ := hmax
    rw [hbox.cell] at hm
    cases hm
  have HB0 := Aside0.mk hb0
  have HM0 := Aside0.mk hmax
  have HS := Aside0.mk hs
  clear hs hb0 hmax
  refine callsIn_of_wp Tryd.func128 rfl trivial ?_ rfl
  simp only [Tryd.ntmps128, List.size_toArray, List.length_cons, List.length_nil, Nat.reduceAdd, Nat.reduceSub, Array.replicate_succ, Array.replicate_zero, List.push_toArray, List.append_toArray, List.nil_append, List.cons_append]
  gi_wp2
  gi_loopw [3] (fun _ wr => ∃ (pre : List (ByteArray × Bool)) (r : ByteArray) (f : Nat), J pre wr ∧ Aside0 (Boxed wr b 9 (.string r)) ∧ Aside0 (MaxL wr) ∧ Aside0 (segsF s.size (bl s) = pre ++ segsF f (bl r)) ∧ Aside0 (r.size ≤ f ∧ pre.length + f = s.size)) (fun _ wr => leftB b wr)
  case atStart => exact ⟨[], s, s.size, h0, ⟨hbox⟩, HM0, ⟨rfl⟩, ⟨Nat.le_refl _, by simp⟩⟩
  case round =>
    obtain ⟨pre, r, f, hJ0, HBx, HM, HSg, HF⟩ := hrel
    have hc := HBx.out.cell
    have hfr := HBx.out.frozen
    by_cases hr : r.size = 0
    · have hr1 : r.toList = [] := by rw [ByteArray.toList_eq]; exact List.length_eq_zero_iff.1 ((bl_len r).trans hr)
      have hr2 : r.toList.isEmpty = true := by rw [hr1]; rfl
      have HZ : Aside0 (segsF s.size (bl s) = pre) := ⟨by
        have e : bl r = [] := List.length_eq_zero_iff.1 ((bl_len r).trans hr)
        rw [HSg.out, e]
        cases f <;> simp [segsF]⟩
      clear hr
      gi_wp2
      go_end0
      exact ⟨⟨_, rfl⟩, .inl ⟨pre, HZ.out.symm, hJ0⟩⟩
    · have hr2 : r.toList.isEmpty = false := by
        rw [ByteArray.toList_eq]
        have := isEmpty_bl r
        rw [decide_eq_false hr] at this
        exact this
      have hr1 : ¬ r.toList = [] := fun e => by rw [e] at hr2; cases hr2
      have HR := Aside0.mk hr
      clear hr
      obtain ⟨m, hm⟩ := HM.out
      have HC := Aside0.mk (Tryd.strings_Cut r ⟨#[10]⟩ m wr (by have := HF.out; have := HS.out; omega) hm)
      clear hm
      obtain ⟨f, rfl⟩ : ∃ g, f = g + 1 := ⟨f - 1, by have := HF.out; have := HR.out; omega⟩
      have HT := Aside0.mk (segs_step r HR.out f (by have := HF.out; omega))
      gi_wp2_with fail
      refine ⟨trivial, (fun h => by cases h), ?_⟩
      refine (callsIn_wide.2 HC.out).mono ?_
      rintro e w1 ⟨rfl, n1, rfl⟩
      clear HC
      have hJ1 := hJ _ _ _ hJ0 (grown_drewN wr n1 b)
      have HM1 := Aside0.mk (max_below HM.out (pw_below_drewN (Below.refl _ wr) n1))
      have HB1 := Aside0.mk (show Boxed (wr.drewN n1) b 9 (.string r) from HBx.out)
      obtain ⟨fn, tmps, assign, body, hy, hR⟩ := hY pre (segOf r) _ hJ1 (by have := HF.out; omega)
      dsimp only [encS, segOf] at hy
      clear hc hfr
      gi_wp2
      refine ⟨(fun h => by cases h), ?_⟩
      refine hR.mono ?_
      rintro e W3 (⟨rfl, hJ3, hk3⟩ | ⟨rfl, hJx3⟩)
      · have hB3 : Boxed W3 b 9 (.string r) := (hk3 b (.inl rfl)).trans HB1.out
        have HM3 := Aside0.mk (max_same HM1.out hk3 (.inr rfl))
        have HB3 := Aside0.mk hB3
        have hc3 := hB3.cell
        have hf3 := hB3.frozen
        have hJ4 := hJ _ _ _ hJ3 (grownBy_setCell' W3 b (.string (restOf r)))
        have HB4 := Aside0.mk (hB3.set (.string (restOf r)))
        have HM4 := Aside0.mk (max_set HM3.out HB0.out (.string (restOf r)))
        clear hk3 hB3
        gi_wp2
        go_roundw
        case rel => exact ⟨pre ++ [segOf r], restOf r, f, hJ4, HB4, HM4, ⟨by rw [HSg.out, HT.out.1]; simp⟩, ⟨HT.out.2, by have := HF.out; simp; omega⟩⟩
        case measure =>
          have e1 := leftB_eq HB4.out
          have e2 := leftB_eq HBx.out
          have e3 : (restOf r).size < r.size := by
            have h1 := HR.out
            have := (segs_step r h1 (r.size - 1) (by omega)).2
            omega
          show leftB b _ < leftB b wr
          rw [e2]
          exact lt_of_eq_of_lt e1 e3
      · gi_wp2
        refine bodyPost_ret (results_none rfl _ _ _) rfl ?_
        exact ⟨⟨_, rfl⟩, .inr ⟨_, ⟨segsF f (bl (restOf r)), by rw [HSg.out, HT.out.1]; simp⟩, hJx3⟩⟩
end Go.Proofs.YtmlbfepibfobaaaDoor.Hand
end

section
namespace Go.Proofs.YtmlbfepibfobaaaDoor.Hand
open Go.RowKit Go.Shelf Go.Proofs.YtmlbfepibfobaaaDoorW.PrintWords Go.Proofs.YtmlbfepibfobaaaDoorW.PrintLast Go.Proofs.YtmlbfepibfobaaaDoorW.PrintMore
set_option linter.unusedVariables false
set_option linter.unusedSimpArgs false
attribute [local go_sem] Oper.semAt_some

set_option maxHeartbeats 2000000 in
theorem word_each (s : ByteArray) (w : World) :
    Calls Tryd.prog 101 #[.string s] w fun e w' => e = .returned (.func (.func 128) #[] #[.pointer (some ⟨w.heap.size, 0, none⟩)]) ∧ w' = w.alloc (.cells #[.string s] 9) := by
  have hmf : ∀ (fn : Fn) (first cap : Array Value) (w : World), (Instr.makeFunc fn first cap).run Tryd.prog w = .ok (.func fn first cap) w := fun _ _ _ _ => rfl
  go_enter Tryd.func101, Tryd.ntmps101
  go_wp2
  go_ret
  exact ⟨rfl, rfl⟩
theorem lines_info : (Tryd.prog.info? 9).map (fun i => (i.zero, i.size, i.bytes)) = some (some (.string ⟨#[]⟩), 1, 16) := by kernel_rfl

abbrev FltT : TypeId := 31
abbrev StrsT : TypeId := 57
/-- Between two lines. -/
def LinesI (w : World) (pre : List (ByteArray × Bool)) (W : World) : Prop :=
  (∀ x ∈ pre, goodS x = true) ∧ (∃ v, Boxed W (w.heap.size + 1 + 1) StrsT v ∧ W.ownsRow (w.heap.size + 4) 9 1 v pre.length (pre.map fun x => Value.string x.1)) ∧
  Boxed W w.heap.size StrsT (.slice none 0 0) ∧ W.heap[w.heap.size + 1]? = some (.cells #[.int .i64 0, .int .i64 0] FltT (0, 0)) ∧ Below w.heap.size w W ∧ w.heap.size + 4 ≤ W.heap.size
/-- A line was none. -/
def LinesX (w : World) (c : Code) (pre : List (ByteArray × Bool)) (W : World) : Prop :=
  c = .ret ∧ ∃ q x, pre = q ++ [x] ∧ (∀ y ∈ q, goodS y = true) ∧ goodS x = false ∧ Boxed W w.heap.size StrsT (.slice none 0 0) ∧
    W.heap[w.heap.size + 1]? = some (.cells #[.int .i64 1, .int .i64 ((q.length : Int) + 1)] FltT (0, 0)) ∧ Below w.heap.size w W ∧ w.heap.size + 4 ≤ W.heap.size
theorem Boxed_alloc2 {W : World} {g : Nat} {cs : Array Value} {t : TypeId} {o o1 : Obj} (h : W.heap[g]? = some (.cells cs t (0, 0))) : ((W.alloc o).alloc o1).heap[g]? = some (.cells cs t (0, 0)) :=
  blk_grown (blk_grown h (World.grownBy_alloc W o none) (by simp)) (World.grownBy_alloc _ o1 none) (by simp)
theorem blk_stays {X Y : World} {row : Option Nat} {B b g : Nat} {cs : Array Value} {t : TypeId} (h : X.heap[g]? = some (.cells cs t (0, 0))) (hg : X.grownBy Y row)
    (hr : ∀ r, row = some r → r = b ∨ (B ≤ r ∧ ∃ o : Obj, X.heap[r]? = some o ∧ o.isCells = false)) (hne : g ≠ b) : Y.heap[g]? = some (.cells cs t (0, 0)) := by
  refine (hg.block g (Array.getElem?_eq_some_iff.1 h).1 fun e => ?_).trans h
  rcases hr g e.symm with h1 | ⟨_, o, ho, hc⟩
  · exact hne h1
  · rw [h] at ho; cases ho; cases hc
theorem row_stays {X Y : World} {row : Option Nat} {B b base : Nat} {e : TypeId} {v : Value} {k : Nat} {xs : List Value} (h : X.ownsRow base e 1 v k xs) (hg : X.grownBy Y row)
    (hr : ∀ r, row = some r → r = b ∨ (B ≤ r ∧ ∃ o : Obj, X.heap[r]? = some o ∧ o.isCells = false)) (hb : b < base) : Y.ownsRow base e 1 v k xs := by
  rcases h.2 with ⟨hv, _⟩ | ⟨g, cap, cur, hv, hbg, hh, _⟩
  · exact h.kept hg (.inl (by rw [hv]; rfl))
  · refine h.kept hg (.inr fun ev => ?_)
    have ev' : row = some g := by rw [← ev, hv]; rfl
    rcases hr g ev' with h1 | ⟨_, o, ho, hc⟩
    · omega
    · rw [hh] at ho; cases ho; cases hc
theorem linesI_holds (w : World) : HoldsAll (w.heap.size + 4) (w.heap.size + 3) (LinesI w) := fun pre X Y row ⟨h1, ⟨v, hv, hrow⟩, h2, h3, h4, h5⟩ hg hr =>
  ⟨h1, ⟨v, blk_stays hv hg hr (by omega), row_stays hrow hg hr (by omega)⟩, blk_stays h2 hg hr (by omega), blk_stays h3 hg hr (by omega),
    h4.grown hg h4.size (fun k e => by rcases hr k e with h | ⟨h, _⟩ <;> omega), Nat.le_trans h5 hg.size⟩
theorem linesX_holds (w : World) (c : Code) : HoldsAll (w.heap.size + 4) (w.heap.size + 3) (LinesX w c) := fun pre X Y row ⟨hc, q, x, h0, h1, hx, h2, h3, h4, h5⟩ hg hr =>
  ⟨hc, q, x, h0, h1, hx, blk_stays h2 hg hr (by omega), blk_stays h3 hg hr (by omega), h4.grown hg h4.size (fun k e => by rcases hr k e with h | ⟨h, _⟩ <;> omega), Nat.le_trans h5 hg.size⟩
theorem own_lower {W : World} {base base' : Nat} {e : TypeId} {size : Nat} {v : Value} {k : Nat} {xs : List Value} (h : W.ownsRow base e size v k xs) (hb : base' ≤ base) : W.ownsRow base' e size v k xs := by
  refine ⟨h.1, h.2.imp id ?_⟩
  rintro ⟨g, cap, cur, h1, h2, h3⟩
  exact ⟨g, cap, cur, h1, Nat.le_trans hb h2, h3⟩
theorem run_good : ∀ (l : List (ByteArray × Bool)) (out : List ByteArray), (∀ x ∈ l, goodS x = true) → runS out l = (out ++ l.map (·.1), 0, 0)
  | [], out, _ => by simp [runS]
  | x :: l, out, h => by
    rw [runS, if_pos (h x (by simp)), run_good l _ (fun y hy => h y (by simp [hy]))]
    simp
theorem run_bad : ∀ (q : List (ByteArray × Bool)) (x : ByteArray × Bool) (r : List (ByteArray × Bool)) (out : List ByteArray), (∀ y ∈ q, goodS y = true) → goodS x = false → runS out (q ++ x :: r) = ([], 1, (out.length : Int) + q.length + 1)
  | [], x, r, out, _, hx => by rw [List.nil_append, runS, hx]; simp
  | y :: q, x, r, out, h, hx => by
    rw [List.cons_append, runS, if_pos (h y (by simp)), run_bad q x r _ (fun z hz => h z (by simp [hz])) hx]
    simp
    omega
theorem linesX_both (w W : World) (pre : List (ByteArray × Bool)) (x : ByteArray × Bool) (h1 : ∀ y ∈ pre, goodS y = true) (hx : goodS x = false) (h2 : Boxed W w.heap.size StrsT (.slice none 0 0))
    (h3 : W.heap[w.heap.size + 1]? = some (.cells #[.int .i64 0, .int .i64 0] FltT (0, 0))) (h4 : Below w.heap.size w W) (h5 : w.heap.size + 4 ≤ W.heap.size) :
    (KeepsOthers W (((W.setCell ⟨w.heap.size, 0, none⟩ (.slice none 0 0)).setCell ⟨w.heap.size + 1, 0, none⟩ (.int .i64 1)).setCell ⟨w.heap.size + 1, 1, none⟩ (.int .i64 ((pre.length : Int) + 1))).drew ∧
      LinesX w .ret (pre ++ [x]) (((W.setCell ⟨w.heap.size, 0, none⟩ (.slice none 0 0)).setCell ⟨w.heap.size + 1, 0, none⟩ (.int .i64 1)).setCell ⟨w.heap.size + 1, 1, none⟩ (.int .i64 ((pre.length : Int) + 1))).drew) ∧
    (KeepsOthers W (((W.setCell ⟨w.heap.size + 1, 0, none⟩ (.int .i64 1)).setCell ⟨w.heap.size + 1, 1, none⟩ (.int .i64 ((pre.length : Int) + 1))).setCell ⟨w.heap.size, 0, none⟩ (.slice none 0 0)).drew ∧
      LinesX w .ret (pre ++ [x]) (((W.setCell ⟨w.heap.size + 1, 0, none⟩ (.int .i64 1)).setCell ⟨w.heap.size + 1, 1, none⟩ (.int .i64 ((pre.length : Int) + 1))).setCell ⟨w.heap.size, 0, none⟩ (.slice none 0 0)).drew) := by
  have s1 := fun (X : World) (hX : X.heap[w.heap.size + 1]? = some (.cells #[.int .i64 0, .int .i64 0] FltT (0, 0))) => blk_set (blk_set hX 0 (.int .i64 1)) 1 (.int .i64 ((pre.length : Int) + 1))
  simp only [List.setIfInBounds_toArray, List.set_cons_zero, List.set_cons_succ] at s1
  refine ⟨⟨(((KeepsOthers.setCell _ _ _).trans (KeepsOthers.setCell _ _ _)).trans (KeepsOthers.setCell _ _ _)).trans (KeepsOthers.drew _), rfl, pre, x, rfl, h1, hx, ?_, ?_, ?_, ?_⟩,
    ⟨(((KeepsOthers.setCell _ _ _).trans (KeepsOthers.setCell _ _ _)).trans (KeepsOthers.setCell _ _ _)).trans (KeepsOthers.drew _), rfl, pre, x, rfl, h1, hx, ?_, ?_, ?_, ?_⟩⟩
  · have := blk_far (blk_far (h2.set (.slice none 0 0)) (p := ⟨w.heap.size + 1, 0, none⟩) (by simp) (.int .i64 1)) (p := ⟨w.heap.size + 1, 1, none⟩) (by simp) (.int .i64 ((pre.length : Int) + 1))
    exact this
  · exact s1 _ (blk_far h3 (p := ⟨w.heap.size, 0, none⟩) (by simp) _)
  · exact below_drew (((h4.setCell (p := ⟨w.heap.size, 0, none⟩) (Nat.le_refl _) _).setCell (p := ⟨w.heap.size + 1, 0, none⟩) (by simp) _).setCell (p := ⟨w.heap.size + 1, 1, none⟩) (by simp) _)
  · simpa using h5
  · have h6 := blk_far (blk_far h2 (p := ⟨w.heap.size + 1, 0, none⟩) (by simp) (.int .i64 1)) (p := ⟨w.heap.size + 1, 1, none⟩) (by simp) (.int .i64 ((pre.length : Int) + 1))
    exact Boxed.set (.slice none 0 0) h6
  · exact blk_far (s1 _ h3) (p := ⟨w.heap.size, 0, none⟩) (by simp) _
  · exact below_drew (((h4.setCell (p := ⟨w.heap.size + 1, 0, none⟩) (by simp) _).setCell (p := ⟨w.heap.size + 1, 1, none⟩) (by simp) _).setCell (p := ⟨w.heap.size, 0, none⟩) (Nat.le_refl _) _)
  · simpa using h5
/-- The two results' boxes, read when the loop's block for deferred calls has been shut. -/
theorem lines_end (w W : World) (D : Nat) (e x : Int) (v : Value) (xs : List ByteArray) (hD : w.heap.size + 4 ≤ D) (hK : W.heap[D]? = some (.deferred (some []))) (h2 : Boxed W w.heap.size StrsT v)
    (h3 : W.heap[w.heap.size + 1]? = some (.cells #[.int .i64 e, .int .i64 x] FltT (0, 0))) (h4 : Below w.heap.size w W) (hrow : W.ownsRow (w.heap.size + 4) 9 1 v xs.length (xs.map Value.string)) :
    ((W.putObj D (.deferred none)).cell? ⟨w.heap.size, 0, none⟩ = some v ∧ (W.putObj D (.deferred none)).cell? ⟨w.heap.size + 1, 0, none⟩ = some (.int .i64 e) ∧ (W.putObj D (.deferred none)).cell? ⟨w.heap.size + 1, 1, none⟩ = some (.int .i64 x)) ∧
    Kd.R Kd.string 9 (W.putObj D (.deferred none)) w.heap.size (fun _ => True) v xs ∧ Below w.heap.size w (W.putObj D (.deferred none)) := by
  have hk : ∀ r, some D = some r → ∃ o : Obj, W.heap[r]? = some o ∧ o.isCells = false := fun r e => by cases e; exact ⟨_, hK, rfl⟩
  have hc3 := blk_cell h3 0
  have hc4 := blk_cell h3 1
  simp only [List.getElem?_toArray, List.getElem?_cons_zero, List.getElem?_cons_succ] at hc3 hc4
  refine ⟨⟨cell_kept h2.cell (grownBy_putObj' _ D _) hk, cell_kept hc3 (grownBy_putObj' _ D _) hk, cell_kept hc4 (grownBy_putObj' _ D _) hk⟩, Kd.R_of_own ?_ (fun _ _ => trivial), ?_⟩
  · exact own_lower (ownsRow_putObj hrow _ hK rfl) (by omega)
  · exact h4.trans (belowK_b (w := w) (Nat.le_refl _) W D _ _ (by omega) hK rfl rfl)
theorem linesI_next (w W w1 : World) (pre : List (ByteArray × Bool)) (line : ByteArray) (v v' : Value) (o : Obj) (hlen : (0 : Nat) < w.heap.size) (h1 : ∀ y ∈ pre, goodS y = true) (hx : goodS (line, true) = true)
    (hv : Boxed W (w.heap.size + 1 + 1) StrsT v) (hrow : W.ownsRow (w.heap.size + 4) 9 1 v pre.length (pre.map fun x => Value.string x.1)) (h2 : Boxed W w.heap.size StrsT (.slice none 0 0))
    (h3 : W.heap[w.heap.size + 1]? = some (.cells #[.int .i64 0, .int .i64 0] FltT (0, 0))) (h4 : Below w.heap.size w W) (h5 : w.heap.size + 4 ≤ W.heap.size)
    (hown : w1.ownsRow (w.heap.size + 4) 9 1 v' (pre.length + 1) ((pre.map fun x => Value.string x.1) ++ [.string line])) (hgrow : (W.alloc o).grownBy w1 v.ownBlock) :
    Boxed w1 (w.heap.size + 1 + 1) StrsT v ∧ KeepsOthers W (w1.setCell ⟨w.heap.size + 1 + 1, 0, none⟩ v') ∧ SameBlk (fun i => i = w.heap.size + 1 + 1 + 1 ∨ i = 0) W (w1.setCell ⟨w.heap.size + 1 + 1, 0, none⟩ v') ∧
      LinesI w (pre ++ [(line, true)]) (w1.setCell ⟨w.heap.size + 1 + 1, 0, none⟩ v') := by
  obtain ⟨a1, a2, a3, a4, a5⟩ := hv.appended (n₀ := w.heap.size) (by decide) (own_lower hrow (by omega : w.heap.size ≤ w.heap.size + 4)) (by omega) (by omega) (own_lower hown (by omega : w.heap.size ≤ w.heap.size + 4)) hgrow
  have hr4 := hown.kept (grownBy_setCell' w1 (w.heap.size + 1 + 1) v') (.inr (a1.not_row (by decide) hown).symm)
  have ho := hrow.alloc o
  have hbase : ∀ k, v.ownBlock = some k → w.heap.size + 4 ≤ k := fun k hk => (hrow.lt k hk).1
  refine ⟨a1, a4, ?_, ?_, ⟨v', a2, by simpa using hr4⟩, ?_, ?_, h4.trans a5, ?_⟩
  · have go : ∀ i, i < w.heap.size + 4 → i ≠ w.heap.size + 1 + 1 → (w1.setCell ⟨w.heap.size + 1 + 1, 0, none⟩ v').heap[i]? = W.heap[i]? := fun i hi hne => by
      rw [Below.heap_setCell w1 ⟨w.heap.size + 1 + 1, 0, none⟩ v' i hne]
      exact (hgrow.block i (by simp; omega) (fun e => by have := hbase i e.symm; omega)).trans (Below.heap_alloc W o i (by omega))
    rintro i (rfl | rfl)
    · exact go _ (by omega) (by omega)
    · exact go _ (by omega) (by omega)
  · intro y hy
    simp only [List.mem_append, List.mem_singleton] at hy
    rcases hy with hy | hy
    · exact h1 y hy
    · rw [hy]; exact hx
  · have := (h2.alloc o).kept hgrow ((h2.alloc o).not_row (by decide) ho)
    exact blk_far this (p := ⟨w.heap.size + 1 + 1, 0, none⟩) (by simp; omega) _
  · have h3' := blk_grown h3 (World.grownBy_alloc W o none) (by simp)
    have := blk_grown h3' hgrow (own_ne ho h3' (by decide))
    exact blk_far this (p := ⟨w.heap.size + 1 + 1, 0, none⟩) (by simp) _
  · have := hgrow.size
    simp at this ⊢
    omega
def word_Lines.f (s : ByteArray) : Option (List ByteArray × Int × Int) := if s.size ≤ 9223372036854775807 then some ((linesL (bl s)).1.map lb, (linesL (bl s)).2) else none
set_option maxHeartbeats 8000000 in
set_option maxRecDepth 100000 in
theorem word_Lines.calls (a0 : ByteArray) (r1 : List ByteArray) (r2 r3 : Int) (w : World) (hGMaxL : MaxL w) (h : word_Lines.f a0 = some (r1, r2, r3)) :
    Calls Tryd.prog 40 #[.string a0] w fun e w' => ∃ v0_ : Value, e = .returned (.tuple #[v0_, .agg #[.int .i64 r2, .int .i64 r3]]) ∧ Kd.R Kd.string 9 w' w.heap.size (fun _ => True) v0_ r1 ∧ Below w.heap.size w w' := by
  refine (callsIn_wide (n := 9)).1 ?_
  unfold word_Lines.f at h
  split at h
  · rename_i hs
    have h := Option.some.inj h
    unfold linesL at h
    rw [bl_len] at h
    obtain ⟨i0, hi, hz0, hz1, hz2⟩ := info_parts lines_info
    by_cases hbig : a0.size > 65536
    · rw [if_pos hbig] at h
      simp only [List.map_nil, Prod.mk.injEq] at h
      obtain ⟨rfl, rfl, rfl⟩ := h
      have hd : decide (65536 < a0.size) = true := decide_eq_true hbig
      have hd2 : decide ((65536 : Int) < (a0.size : Int)) = true := decide_eq_true (by omega)
      clear hbig
      refine callsIn_of_wp_marks Tryd.func40 rfl trivial ?_ rfl
      simp only [Tryd.ntmps40, List.size_toArray, List.length_cons, List.length_nil, Nat.reduceAdd, Nat.reduceSub, Array.replicate_succ, Array.replicate_zero, List.push_toArray, List.append_toArray, List.nil_append, List.cons_append]
      gi_wp2
      refine ⟨.tuple #[.slice none 0 0, .agg #[.int .i64 3, .int .i64 0]], by simp [results, Tryd.results40, go_sem], .slice none 0 0, rfl, Kd.R_nil _ _ _ _ _, below_alloc (below_alloc (Below.refl _ _) _) _⟩
    · rw [if_neg hbig] at h
      have hd : decide (65536 < a0.size) = false := decide_eq_false hbig
      have hd2 : decide ((65536 : Int) < (a0.size : Int)) = false := decide_eq_false (by omega)
      have HRun : Aside0 (runS [] (segsF a0.size (bl a0)) = (r1, r2, r3)) := ⟨by
        have e1 := congrArg Prod.fst h
        have e2 := congrArg Prod.snd h
        simp only at e1 e2
        rw [← e1, ← e2]
        exact run_segs a0.size (bl a0) [] (by rw [bl_len]; omega)⟩
      have hsz : a0.size ≤ 65536 := by omega
      clear h hbig hs
      refine callsIn_of_wp_marks Tryd.func40 rfl trivial ?_ rfl
      simp only [Tryd.ntmps40, List.size_toArray, List.length_cons, List.length_nil, Nat.reduceAdd, Nat.reduceSub, Array.replicate_succ, Array.replicate_zero, List.push_toArray, List.append_toArray, List.nil_append, List.cons_append]
      gi_wp2_with (refine ⟨trivial, ?_⟩; refine (callsIn_wide.2 (word_each a0 _)).mono ?_; rintro e w' ⟨rfl, rfl⟩)
      have b0 := Boxed.new w StrsT (.slice none 0 0)
      have b1 := World.alloc_heap_new (w.alloc (.cells #[.slice none 0 0] StrsT)) (.cells #[.int .i64 0, .int .i64 0] FltT)
      have b2 := Boxed.new ((w.alloc (.cells #[.slice none 0 0] StrsT)).alloc (.cells #[.int .i64 0, .int .i64 0] FltT)) StrsT (.slice none 0 0)
      have b3 := Boxed.new (((w.alloc (.cells #[.slice none 0 0] StrsT)).alloc (.cells #[.int .i64 0, .int .i64 0] FltT)).alloc (.cells #[.slice none 0 0] StrsT)) 9 (.string a0)
      rw [World.size_alloc] at b1
      rw [World.size_alloc, World.size_alloc] at b2
      rw [World.size_alloc, World.size_alloc, World.size_alloc] at b3
      obtain ⟨W0, hW0⟩ : ∃ W0, (((w.alloc (.cells #[.slice none 0 0] StrsT)).alloc (.cells #[.int .i64 0, .int .i64 0] FltT)).alloc (.cells #[.slice none 0 0] StrsT)).alloc (.cells #[.string a0] 9) = W0 := ⟨_, rfl⟩
      have hB0 : Below w.heap.size w W0 := hW0 ▸ below_alloc (below_alloc (below_alloc (below_alloc (Below.refl _ _) _) _) _) _
      have hz : W0.heap.size = w.heap.size + 4 := by rw [← hW0]; simp
      have hm0 : MaxL W0 := max_below hGMaxL hB0
      have hI0 : LinesI w [] W0 := ⟨by simp, ⟨.slice none 0 0, hW0 ▸ b2.alloc _, World.ownsRow_nil _ _ _ _⟩, hW0 ▸ ((b0.alloc _).alloc _).alloc _, hW0 ▸ (Boxed_alloc2 b1), hB0, by omega⟩
      have hb3 : Boxed W0 (w.heap.size + 1 + 1 + 1) 9 (.string a0) := hW0 ▸ b3
      have hlen : (0 : Nat) < w.heap.size := by
        obtain ⟨m, hm⟩ := hGMaxL
        exact World.block_lt_of_cell? w _ hm
      rw [hW0]
      clear b0 b1 b2 b3 hW0
      refine range_box rfl (by decide) (gf := 128) (lb := #[.pointer (some ⟨w.heap.size + 1 + 1 + 1, 0, none⟩)]) rfl trivial (enters_of Tryd.func128 (by kernel_rfl) rfl) (fun _ => rfl) (b := w.heap.size + 1 + 1 + 1) (by omega)
        (by rintro i (rfl | rfl) <;> omega) (each_seq 8 a0 (w.heap.size + 1 + 1 + 1) (by omega)) (fun W hW => ⟨(hW.block _ (by omega)).trans hb3, max_below hm0 hW⟩)
        (LinesI w) (LinesX w) (hz ▸ linesI_holds w) (fun c => hz ▸ linesX_holds w c) hI0
        (fun x => { tmps := #[.string a0, undef, .pointer (some ⟨w.heap.size, 0, none⟩), .pointer (some ⟨w.heap.size + 1, 0, none⟩), .pointer (some ⟨w.heap.size + 1 + 1, 0, none⟩), .string x.1, .bool x.2, .string a0, .int .i64 a0.size, .bool false, undef, .string a0, .func (.func 128) #[] #[.pointer (some ⟨w.heap.size + 1 + 1 + 1, 0, none⟩)], .string x.1, .bool x.2, undef, undef, undef, undef, undef, undef, undef, undef, undef, undef, undef, undef, undef, undef, undef, undef, undef], defers := [] }) ?assign ?body ?done ?stop
      case assign =>
        intro l x W K hK
        gi_wp2
        exact hK
      case body =>
        rintro l pre ⟨line, ended⟩ W hI hN
        have HI := Aside0.mk hI
        obtain ⟨h1, ⟨v, hv, hrow⟩, h2, h3, h4, h5⟩ := hI
        obtain ⟨A, cp, rfl⟩ := own_slice hrow
        have hc := hv.cell
        have hfr := hv.frozen
        have hc2 := h2.cell
        have hf2 := h2.frozen
        have hc3 := blk_cell h3 0
        have hc4 := blk_cell h3 1
        have hf3 := blk_frozen h3 0
        have hf4 := blk_frozen h3 1
        simp only [List.getElem?_toArray, List.getElem?_cons_zero, List.getElem?_cons_succ] at hc3 hc4
        cases ended with
        | false =>
          gi_wp2
          have hboth := linesX_both w W pre (line, false) h1 rfl h2 h3 h4 h5
          obtain ⟨hXA, hXB⟩ := hboth
          have HXA := Aside0.mk hXA
          have HXB := Aside0.mk hXB
          have hw := IntWalk.i64_in ((pre.length : Int) + 1) (by omega)
          clear hXA hXB h1 h2 h3 hv hrow
          refine ⟨trivial, ?_⟩
          gi_wp2
          gi_region
          all_goals gi_wp2
          all_goals first | exact HXA.out | exact HXB.out
        | true =>
          clear hc hfr hc2 hf2 hf3 hf4 hc3 hc4 h1 h2 h3 h4 h5 hv hrow
          obtain ⟨bb, hbb⟩ : ∃ bb, bb = (bl line).all seen := ⟨_, rfl⟩
          have HP := Aside0.mk (word_plain.calls line bb W (by unfold word_plain.f; rw [hbb]))
          have HBB := Aside0.mk hbb
          clear hbb
          gi_wp2_with fail
          refine ⟨trivial, ?_⟩
          refine (CallsIn.inRound l (callsIn_wide.2 HP.out)).mono ?_
          rintro e W1 ⟨rfl, hb⟩
          have hI1 := linesI_holds w pre W W1 none HI.out (grown_of_below hb none) (fun r e => by cases e)
          have hK1 := KeepsOthers.of_grownBy (grown_of_below hb none) (fun j o e => by cases e)
          have hS1 : SameBlk (fun i => i = w.heap.size + 1 + 1 + 1 ∨ i = 0) W W1 := by
            have := HI.out.2.2.2.2.2
            rintro i (rfl | rfl)
            · exact hb.block _ (by omega)
            · exact hb.block _ (by omega)
          have HK1 := Aside0.mk hK1
          have HS1 := Aside0.mk hS1
          clear HI HP hb hK1 hS1
          obtain ⟨h1, ⟨v, hv, hrow⟩, h2, h3, h4, h5⟩ := hI1
          obtain ⟨A, cp, rfl⟩ := own_slice hrow
          have hc := hv.cell
          have hfr := hv.frozen
          have hc2 := h2.cell
          have hf2 := h2.frozen
          have hc3 := blk_cell h3 0
          have hc4 := blk_cell h3 1
          have hf3 := blk_frozen h3 0
          have hf4 := blk_frozen h3 1
          simp only [List.getElem?_toArray, List.getElem?_cons_zero, List.getElem?_cons_succ] at hc3 hc4
          cases bb with
          | false =>
            have hboth := linesX_both w W1 pre (line, true) h1 (by unfold goodS; rw [← HBB.out]; rfl) h2 h3 h4 h5
            obtain ⟨⟨hXA1, hXA2⟩, ⟨hXB1, hXB2⟩⟩ := hboth
            have HXA := Aside0.mk (And.intro (HK1.out.trans hXA1) hXA2)
            have HXB := Aside0.mk (And.intro (HK1.out.trans hXB1) hXB2)
            have hw := IntWalk.i64_in ((pre.length : Int) + 1) (by omega)
            clear hXA1 hXB1 hXA2 hXB2 h1 h2 h3 hv hrow
            gi_wp2
            gi_region
            all_goals gi_wp2
            all_goals first | exact HXA.out | exact HXB.out
          | true =>
            have hgd : goodS (line, true) = true := by unfold goodS; rw [← HBB.out]; rfl
            have HN := Aside0.mk (fun w1 v' o => linesI_next w W1 w1 pre line _ v' o hlen h1 hgd hv hrow h2 h3 h4 h5)
            have HR := Aside0.mk hrow
            have hlen1 : pre.length ≤ 65537 := by omega
            clear hc2 hf2 hc3 hc4 hf3 hf4 h1 h2 h3 h4 hv hrow hgd hfr
            gi_wp2_with (gi_at_builtin; refine wpListIn_append_own _ rfl _ _ StrsT rfl (w.heap.size + 4) 9 i0 (.string ⟨#[]⟩) 1 16 Tryd.underlying57 hi hz0 hz1 hz2 rfl (by decide) _ _ _ rfl (HR.out.alloc _) ⟨W1.heap.size, 0, none⟩ 1 1 [.string line] rfl rfl (cell_one_new _ _ _) (by simp [Value.oneCell']) (by unfold maxLen; omega) (by omega) (by simp; omega) ?_; intro v' w1 hown' hgrow _; obtain ⟨g', cap', rfl⟩ := ownsRow_succ hown'; obtain ⟨hv1, hk2, hs2, hi2⟩ := HN.out w1 _ _ hown' hgrow; have hc1 := hv1.cell; have hf1 := hv1.frozen; have HF := Aside0.mk (And.intro (HK1.out.trans hk2) (And.intro (fun i hi => (hs2 i hi).trans (HS1.out i hi)) hi2)); clear hk2 hs2 hi2 hown' hgrow hv1)
            exact HF.out
      case done =>
        rintro D xs W hD rfl ⟨h1, ⟨v, hv, hrow⟩, h2, h3, h4, h5⟩ hK
        have hr := HRun.out
        rw [run_good _ [] h1] at hr
        simp only [List.nil_append, Prod.mk.injEq] at hr
        obtain ⟨rfl, rfl, rfl⟩ := hr
        obtain ⟨A, cp, rfl⟩ := own_slice hrow
        have hc := hv.cell
        have hc2 := h2.cell
        have hf2 := h2.frozen
        have hc3 := blk_cell h3 0
        have hc4 := blk_cell h3 1
        have hf3 := blk_frozen h3 0
        have hf4 := blk_frozen h3 1
        simp only [List.getElem?_toArray, List.getElem?_cons_zero, List.getElem?_cons_succ] at hc3 hc4
        have HE := Aside0.mk (lines_end w (((W.setCell ⟨w.heap.size, 0, none⟩ (.slice A (segsF a0.size (bl a0)).length cp)).setCell ⟨w.heap.size + 1, 0, none⟩ (.int .i64 0)).setCell ⟨w.heap.size + 1, 1, none⟩ (.int .i64 0)) D 0 0 (.slice A (segsF a0.size (bl a0)).length cp) ((segsF a0.size (bl a0)).map (·.1)) (by omega)
          ((((KeepsOthers.setCell _ _ _).trans (KeepsOthers.setCell _ _ _)).trans (KeepsOthers.setCell _ _ _)).same D _ hK rfl)
          (blk_far (blk_far (h2.set _) (p := ⟨w.heap.size + 1, 0, none⟩) (by simp) _) (p := ⟨w.heap.size + 1, 1, none⟩) (by simp) _)
          (by
            have := blk_set (blk_set (blk_far h3 (p := ⟨w.heap.size, 0, none⟩) (by simp) (.slice A (segsF a0.size (bl a0)).length cp)) 0 (.int .i64 0)) 1 (.int .i64 0)
            simpa only [List.setIfInBounds_toArray, List.set_cons_zero, List.set_cons_succ] using this)
          (((h4.setCell (p := ⟨w.heap.size, 0, none⟩) (Nat.le_refl _) _).setCell (p := ⟨w.heap.size + 1, 0, none⟩) (by simp) _).setCell (p := ⟨w.heap.size + 1, 1, none⟩) (by simp) _)
          (by
            have n1 := h2.not_row (by decide) hrow
            have n2 := own_ne hrow h3 (by decide)
            have := own_setCell (own_setCell (own_setCell hrow (p := ⟨w.heap.size, 0, none⟩) n1 (.slice A (segsF a0.size (bl a0)).length cp)) (p := ⟨w.heap.size + 1, 0, none⟩) n2 (.int .i64 0)) (p := ⟨w.heap.size + 1, 1, none⟩) n2 (.int .i64 0)
            rw [List.length_map, List.map_map]
            exact this))
        have HK2 := Aside0.mk ((((KeepsOthers.setCell W ⟨w.heap.size, 0, none⟩ (.slice A (segsF a0.size (bl a0)).length cp)).trans (KeepsOthers.setCell _ ⟨w.heap.size + 1, 0, none⟩ (.int .i64 0))).trans (KeepsOthers.setCell _ ⟨w.heap.size + 1, 1, none⟩ (.int .i64 0))).same D _ hK rfl)
        clear h1 h2 h3 h4 h5 hv hrow
        gi_wp2
        refine ⟨by simp, .inl ⟨_, _, rfl, run_takeDeferred HK2.out, ?_⟩⟩
        obtain ⟨⟨q0, q1, q2⟩, q3, q4⟩ := HE.out
        refine ⟨.tuple #[.slice A (segsF a0.size (bl a0)).length cp, .agg #[.int .i64 0, .int .i64 0]], ?_, _, rfl, q3, q4⟩
        simp [results, Tryd.results40, go_sem, q0, q1, q2]
      case stop =>
        rintro D c pre W hD ⟨rest, hSp⟩ ⟨rfl, q, x, h0, h1, hx, h2, h3, h4, h5⟩ hK
        have hr := HRun.out
        rw [← hSp, h0, List.append_assoc, List.singleton_append, run_bad q x rest [] h1 hx] at hr
        simp only [List.length_nil, Prod.mk.injEq] at hr
        obtain ⟨rfl, rfl, rfl⟩ := hr
        obtain ⟨⟨q0, q1, q2⟩, q3, q4⟩ := lines_end w W D 1 ((q.length : Int) + 1) (.slice none 0 0) [] (by omega) hK h2 h3 h4 (World.ownsRow_nil _ _ _ _)
        gi_wp2
        refine ⟨by simp, .inl ⟨_, _, rfl, run_takeDeferred hK, ?_⟩⟩
        refine ⟨.tuple #[.slice none 0 0, .agg #[.int .i64 1, .int .i64 ((q.length : Int) + 1)]], ?_, _, by simp, q3, q4⟩
        simp [results, Tryd.results40, go_sem, q0, q1, q2]
  · cases h
end Go.Proofs.YtmlbfepibfobaaaDoor.Hand
end

section
namespace Go.Proofs.YtmlbfepibfobaaaDoor.Hand
open Go.RowKit Go.Shelf
/-! ### strings.Builder's writers: the kit's contracts at a table of numbers of our own -/
def bldRen : Go.Shelf.Ren := ⟨fun | 166 => 93 | 167 => 94 | 240 => 122 | 276 => 140 | n => n, fun | 0 => 0 | 3 => 3 | 4 => 4 | 5 => 5 | 9 => 9 | 20 => 20 | 37 => 22 | 70 => 100 | 72 => 102 | 75 => 104 | 80 => 40 | 164 => 154 | n => n, fun n => n⟩
theorem bldLays166 : Go.Proofs.Lays.n166 Tryd.prog bldRen := {
  mixed := by kernel_rfl
  f166 := Tryd.func93.trans (congrArg some (by kernel_rfl))
  f240 := Tryd.func122.trans (congrArg some (by kernel_rfl))
  f276 := Tryd.func140.trans (congrArg some (by kernel_rfl))
  t0 := Tryd.underlying0
  a0 := Tryd.isAgg0
  z0 := Tryd.sizeOf0
  v0 := Tryd.zeroValue0
  t3 := Tryd.underlying3
  a3 := Tryd.isAgg3
  z3 := Tryd.sizeOf3
  v3 := Tryd.zeroValue3
  t4 := Tryd.underlying4
  a4 := Tryd.isAgg4
  z4 := Tryd.sizeOf4
  v4 := Tryd.zeroValue4
  t9 := Tryd.underlying9
  a9 := Tryd.isAgg9
  z9 := Tryd.sizeOf9
  v9 := Tryd.zeroValue9
  t20 := Tryd.underlying20
  a20 := Tryd.isAgg20
  z20 := Tryd.sizeOf20
  v20 := Tryd.zeroValue20
  t37 := Tryd.underlying22
  a37 := Tryd.isAgg22
  z37 := Tryd.sizeOf22
  v37 := Tryd.zeroValue22
  t70 := Tryd.underlying100
  a70 := Tryd.isAgg100
  z70 := Tryd.sizeOf100
  v70 := Tryd.zeroValue100
  t72 := Tryd.underlying102
  a72 := Tryd.isAgg102
  z72 := Tryd.sizeOf102
  v72 := Tryd.zeroValue102
  t75 := Tryd.underlying104
  a75 := Tryd.isAgg104
  z75 := Tryd.sizeOf104
  v75 := Tryd.zeroValue104
  t164 := Tryd.underlying154
  a164 := Tryd.isAgg154
  z164 := Tryd.sizeOf154
  v164 := Tryd.zeroValue154 }
theorem bldLays167 : Go.Proofs.Lays.n167 Tryd.prog bldRen := {
  mixed := by kernel_rfl
  f167 := Tryd.func94.trans (congrArg some (by kernel_rfl))
  f240 := Tryd.func122.trans (congrArg some (by kernel_rfl))
  f276 := Tryd.func140.trans (congrArg some (by kernel_rfl))
  t0 := Tryd.underlying0
  a0 := Tryd.isAgg0
  z0 := Tryd.sizeOf0
  v0 := Tryd.zeroValue0
  t4 := Tryd.underlying4
  a4 := Tryd.isAgg4
  z4 := Tryd.sizeOf4
  v4 := Tryd.zeroValue4
  t5 := Tryd.underlying5
  a5 := Tryd.isAgg5
  z5 := Tryd.sizeOf5
  v5 := Tryd.zeroValue5
  t9 := Tryd.underlying9
  a9 := Tryd.isAgg9
  z9 := Tryd.sizeOf9
  v9 := Tryd.zeroValue9
  t20 := Tryd.underlying20
  a20 := Tryd.isAgg20
  z20 := Tryd.sizeOf20
  v20 := Tryd.zeroValue20
  t37 := Tryd.underlying22
  a37 := Tryd.isAgg22
  z37 := Tryd.sizeOf22
  v37 := Tryd.zeroValue22
  t70 := Tryd.underlying100
  a70 := Tryd.isAgg100
  z70 := Tryd.sizeOf100
  v70 := Tryd.zeroValue100
  t72 := Tryd.underlying102
  a72 := Tryd.isAgg102
  z72 := Tryd.sizeOf102
  v72 := Tryd.zeroValue102
  t75 := Tryd.underlying104
  a75 := Tryd.isAgg104
  z75 := Tryd.sizeOf104
  v75 := Tryd.zeroValue104
  t164 := Tryd.underlying154
  a164 := Tryd.isAgg154
  z164 := Tryd.sizeOf154
  v164 := Tryd.zeroValue154 }
theorem bldExtra : Builder.Extra Tryd.prog bldRen := {
  sizeBuilder := by kernel_rfl
  liesBuilder := by kernel_rfl
  t5 := Tryd.underlying5
  a5 := Tryd.isAgg5
  z5 := Tryd.sizeOf5
  v5 := Tryd.zeroValue5
  infoByte := by kernel_rfl
  cellsByte := by kernel_rfl
  sizeByte := by kernel_rfl
  neB5 := by decide }
end Go.Proofs.YtmlbfepibfobaaaDoor.Hand
end

section
namespace Go.Proofs.YtmlbfepibfobaaaDoor.Hand
open Go.RowKit Go.Shelf Go.Proofs.YtmlbfepibfobaaaDoorW.PrintWords Go.Proofs.YtmlbfepibfobaaaDoorW.PrintLast Go.Proofs.YtmlbfepibfobaaaDoorW.PrintMore
set_option linter.unusedVariables false
set_option linter.unusedSimpArgs false

/-! ### fields, as strings.Split tells them -/
theorem blank_until {x : List UInt8} (h : (32 : UInt8) ∉ x) : blank x = false := by
  unfold blank
  rw [List.any_eq_false]
  intro b hb
  rw [beq_iff_eq]
  rintro rfl
  exact h hb
theorem fields_until (l : List UInt8) : fieldsL l = match untilL 32 l with | some (x, r) => x :: fieldsL r | none => [l] := by
  cases hu : untilL 32 l with
  | none =>
    have h := (until_none l).1 hu
    unfold fieldsL
    rw [fld_last l [] (blank_until h)]
    rfl
  | some p =>
    obtain ⟨x, r⟩ := p
    obtain ⟨e, h⟩ := until_some l x r hu
    unfold fieldsL
    rw [e, fld_word x [] r (blank_until h)]
    rfl
theorem index_until (c : UInt8) (l : List UInt8) : (untilL c l = none ∧ Lib.index l [c] = -1) ∨ ∃ x r, untilL c l = some (x, r) ∧ Lib.index l [c] = (x.length : Int) ∧ l.take x.length = x ∧ l.drop (x.length + 1) = r := by
  have hc := cut_until c l
  have hge := Lib.index_ge l [c]
  have hroom := Lib.index_room l [c]
  unfold Lib.cut at hc
  cases hu : untilL c l with
  | none =>
    left
    rw [hu] at hc
    split at hc
    · simp at hc
    · exact ⟨rfl, by omega⟩
  | some p =>
    obtain ⟨x, r⟩ := p
    right
    rw [hu] at hc
    split at hc
    · rename_i hi
      simp only [Prod.mk.injEq, and_true] at hc
      have hr := hroom hi
      have hl : x.length = (Lib.index l [c]).toNat := by
        rw [← hc.1, List.length_take]
        simp at hr
        omega
      refine ⟨x, r, rfl, by omega, ?_, ?_⟩
      · rw [hl]; exact hc.1
      · rw [hl]; exact hc.2
    · simp at hc
theorem split_fields : ∀ (f : Nat) (l : List UInt8), l.length < f → Lib.splitK [32] 0 (Lib.countFrom [32] f l) l = fieldsL l ∧ (fieldsL l).length = Lib.countFrom [32] f l + 1
  | 0, l, h => by omega
  | f + 1, l, h => by
    rw [Lib.countFrom, fields_until]
    rcases index_until 32 l with ⟨h1, h2⟩ | ⟨x, r, h1, h2, h3, h4⟩
    · rw [h2, h1]
      simp [Lib.splitK]
    · have hx : (Lib.index l [32] == -1) = false := beq_eq_false_iff_ne.2 (by omega)
      have e : (Lib.index l [32]).toNat = x.length := by omega
      have hl := (until_some l x r h1).1
      have hr : r.length < f := by rw [hl] at h; simp at h; omega
      obtain ⟨i1, i2⟩ := split_fields f r hr
      rw [hx, h1]
      simp only [Bool.false_eq_true, if_false]
      have e2 : [(32 : UInt8)].length = 1 := rfl
      rw [e, e2, h4, Nat.add_comm 1, Lib.splitK, hx]
      simp only [Bool.false_eq_true, if_false]
      rw [e, Nat.add_zero, e2, h3, h4, i1]
      exact ⟨rfl, by rw [List.length_cons, i2]⟩
theorem join_line : ∀ l : List (List UInt8), Lib.join l [32] = lineL l
  | [] => rfl
  | [x] => by rw [Lib.join_one]; rfl
  | x :: y :: l => by
    have ih := join_line (y :: l)
    rw [Lib.join_cons] at ih ⊢
    rw [lineL_cons _ _ (by simp), ← ih]
    simp [Lib.joinTail]
end Go.Proofs.YtmlbfepibfobaaaDoor.Hand
end

section
namespace Go.Proofs.YtmlbfepibfobaaaDoor.Hand
open Go.RowKit Go.Shelf Go.Proofs.YtmlbfepibfobaaaDoorW.PrintWords Go.Proofs.YtmlbfepibfobaaaDoorW.PrintLast Go.Proofs.YtmlbfepibfobaaaDoorW.PrintMore
set_option linter.unusedVariables false
set_option linter.unusedSimpArgs false

theorem str_cells (s : ByteArray) : Lib.strCells s = Lib.byteCells (bl s) := rfl
theorem byteCells_append (a b : List UInt8) : Lib.byteCells (a ++ b) = Lib.byteCells a ++ Lib.byteCells b := by simp [Lib.byteCells]
theorem byteCells_len (a : List UInt8) : (Lib.byteCells a).length = a.length := by simp [Lib.byteCells]
theorem textL_take (l : List ByteArray) (i : Nat) (h : i < l.length) : textL ((l.map bl).take (i + 1)) = textL ((l.map bl).take i) ++ bl (rdOf ByteArray.empty l (i : Int)) ++ [10] := by
  have hr : rdOf ByteArray.empty l (i : Int) = l[i] := by simp [rdOf, List.getElem?_eq_getElem h]
  rw [List.take_succ_eq_append_getElem (by simpa using h), textL_append, hr]
  simp [textL]
theorem textL_take_le (l : List ByteArray) (i : Nat) : (textL ((l.map bl).take i)).length ≤ (textL (l.map bl)).length := by
  have := textL_append ((l.map bl).take i) ((l.map bl).drop i)
  rw [List.take_append_drop] at this
  rw [this]
  simp
def word_Text.f (l0 : List ByteArray) : Option ByteArray := if (textL (l0.map bl)).length ≤ 140737488355000 then some (lb (textL (l0.map bl))) else none
abbrev BldT : TypeId := 102
set_option maxHeartbeats 8000000 in
set_option maxRecDepth 100000 in
theorem word_Text.calls (A0 : Option Addr) (c0 : Nat) (l0 : List ByteArray) (r : ByteArray) (w : World) (hr0 : Kd.C Kd.string w A0 l0.length l0) (hc0 : l0.length ≤ c0) (h : word_Text.f l0 = some r) :
    Calls Tryd.prog 37 #[.slice A0 l0.length c0] w fun e w' => e = .returned (.string r) ∧ Below w.heap.size w w' := by
  unfold word_Text.f at h
  split at h
  · rename_i hg
    obtain rfl := Option.some.inj h
    clear h
    have HG := Aside0.mk hg
    have HR0 := Aside0.mk hr0
    have HC0 := Aside0.mk hc0
    have HM := Aside0.mk (Kd.C_max hr0)
    clear hr0 hc0 hg
    go_enter Tryd.func37, Tryd.ntmps37
    go_wp2
    go_loopw [8] (fun v8 wr => ∃ i : Nat, v8 = .int .i64 (i : Int) ∧ i ≤ l0.length ∧ Aside0 (Lib.IsBuilder BldT 5 w.heap.size w.heap.size (Lib.byteCells (textL ((l0.map bl).take i))) wr) ∧ Aside0 (Below w.heap.size w wr)) (fun v8 _ => l0.length - (intOf v8).toNat)
    case atStart =>
      exact ⟨0, rfl, Nat.zero_le _, ⟨.inl ⟨Nat.le_refl _, .slice none 0 0, blk_new _ _, World.ownsRow_nil _ _ _ _, by simp [Value.ownBlock]⟩⟩, ⟨below_alloc (Below.refl _ _) _⟩⟩
    case round =>
      obtain ⟨i, rfl, hi, HBd, HB⟩ := hrel
      by_cases hlt : i < l0.length
      · have hm := HM.out
        have p1 : (0 ≤ (i : Int)) = True := eq_true (by omega)
        have q1 : ((i : Int) < (l0.length : Int)) = True := eq_true (by omega)
        have d1 : decide ((i : Int) < (l0.length : Int)) = true := decide_eq_true (by omega)
        have d2 : decide (i < l0.length) = true := decide_eq_true hlt
        have d3 : decide (0 ≤ (i : Int)) = true := decide_eq_true (by omega)
        obtain ⟨ad, rfl, hcell⟩ := Kd.at_string (Kd.C_below HR0.out HB.out) (i : Int) (by omega) (by omega)
        have HT := Aside0.mk (textL_take l0 i hlt)
        have hle := textL_take_le l0 (i + 1)
        rw [HT.out] at hle
        simp only [List.length_append, List.length_singleton, bl_len] at hle
        obtain ⟨s, hs⟩ : ∃ s, s = rdOf ByteArray.empty l0 (i : Int) := ⟨_, rfl⟩
        rw [← hs, Int.toNat_natCast] at hcell
        rw [← hs] at hle HT
        clear hs
        have hw : IntKind.i64.wrap ((i : Int) + 1) = ((i + 1 : Nat) : Int) := by rw [IntKind.wrap_i64]; omega
        have HW1 := Aside0.mk (Any.Builder_WriteString bldLays166 bldExtra w.heap.size w.heap.size _ s wr HBd.out (by rw [byteCells_len]; have := HG.out; omega) HB.out.size)
        go_wp2_with fail
        refine HW1.out.mono ?_
        rintro e w1 ⟨rfl, hb1, hbl1⟩
        have HB1 := Aside0.mk (HB.out.trans hbl1)
        rw [str_cells, ← byteCells_append] at hb1
        have HW2 := Aside0.mk (Any.Builder_WriteByte bldLays167 bldExtra w.heap.size w.heap.size _ 10 w1 (.inr hb1) (by rw [byteCells_len]; simp only [List.length_append, bl_len]; have := HG.out; omega) HB1.out.size)
        clear hb1 hbl1 HW1 hcell
        go_wp2_with fail
        refine HW2.out.mono ?_
        rintro e w2 ⟨rfl, hb2, hbl2⟩
        have HB2 := Aside0.mk (HB1.out.trans hbl2)
        have HBd2 : Aside0 (Lib.IsBuilder BldT 5 w.heap.size w.heap.size (Lib.byteCells (textL ((l0.map bl).take (i + 1)))) w2) := ⟨.inr (by rw [HT.out, byteCells_append]; exact hb2)⟩
        clear hb2 hbl2 HW2 hle
        go_wp2
        go_roundw
        case rel => exact ⟨i + 1, by go_num, hlt, HBd2, HB2⟩
        case measure => simp [intOf]; omega
      · have hil : i = l0.length := by omega
        subst hil
        have d1 : decide ((l0.length : Int) < (l0.length : Int)) = false := decide_eq_false (by omega)
        have hfull : (l0.map bl).take l0.length = l0.map bl := List.take_of_length_le (by simp)
        have HS := Aside0.mk (Tryd.Builder_String_any w.heap.size w.heap.size (textL (l0.map bl)) wr (by rw [← hfull]; exact HBd.out) HB.out.size)
        clear hfull hlt
        go_wp2_with fail
        refine HS.out.mono ?_
        rintro e w1 ⟨rfl, hb1⟩
        have HB1 := Aside0.mk (HB.out.trans hb1)
        clear hb1
        go_wp2
        go_ret
        exact ⟨rfl, HB1.out⟩
  · cases h
end Go.Proofs.YtmlbfepibfobaaaDoor.Hand
end

section
namespace Go.Proofs.YtmlbfepibfobaaaDoor.Hand
open Go.RowKit Go.Proofs.YtmlbfepibfobaaaDoorW.PrintWords Go.Proofs.YtmlbfepibfobaaaDoorW.PrintLast Go.Proofs.YtmlbfepibfobaaaDoorW.PrintMore
set_option linter.unusedVariables false
set_option linter.unusedSimpArgs false

/-! ### a text's lines, written into a section -/
def catW (ls : List ByteArray) : List Int := ls.flatMap textW
theorem catW_append (a b : List ByteArray) : catW (a ++ b) = catW a ++ catW b := by simp [catW]
theorem rdS_get (ls : List ByteArray) (i : Nat) (h : i < ls.length) : rdOf ByteArray.empty ls (i : Int) = ls[i] := by simp [rdOf, List.getElem?_eq_getElem h]
theorem catW_succ (ls : List ByteArray) (i : Nat) (h : i < ls.length) : catW (ls.take (i + 1)) = catW (ls.take i) ++ textW (rdOf ByteArray.empty ls (i : Int)) := by
  rw [List.take_succ_eq_append_getElem h, catW_append, rdS_get ls i h]
  simp [catW]
theorem catW_split (ls : List ByteArray) (i : Nat) (h : i < ls.length) : catW ls = catW (ls.take i) ++ textW (rdOf ByteArray.empty ls (i : Int)) ++ catW (ls.drop (i + 1)) := by
  rw [← catW_succ ls i h, ← catW_append, List.take_append_drop]
theorem textW_len (s : ByteArray) : (textW s).length ≤ 10 + s.size := by
  have := lebPut_length_le (s.size : Int)
  simp [textW, bytesOf_length]
  omega
theorem textW_bytes (s : ByteArray) : (textW s).all byteB = true := by
  unfold textW
  rw [List.all_append, lebPut_bytes, bytesB]
  rfl
theorem catW_bytes (ls : List ByteArray) : (catW ls).all byteB = true := by
  unfold catW
  rw [List.all_flatMap]
  exact List.all_eq_true.2 fun x _ => textW_bytes x
theorem catW_len : ∀ (ls : List ByteArray), (∀ x ∈ ls, x.size ≤ 64) → (catW ls).length ≤ 74 * ls.length
  | [], _ => by simp [catW]
  | x :: ls, h => by
    have h1 := catW_len ls (fun y hy => h y (List.mem_cons_of_mem _ hy))
    have h2 := textW_len x
    have h3 := h x (List.mem_cons_self ..)
    have e : catW (x :: ls) = textW x ++ catW ls := by simp [catW]
    rw [e, List.length_append, List.length_cons]
    omega
theorem catW_take_len (ls : List ByteArray) (i : Nat) (h : ∀ j, j < i → j < ls.length → (rdOf ByteArray.empty ls (j : Int)).size ≤ 64) : (catW (ls.take i)).length ≤ 74 * ls.length := by
  have h1 := catW_len (ls.take i) (fun x hx => by
    obtain ⟨j, hj, rfl⟩ := List.getElem_of_mem hx
    rw [List.length_take] at hj
    rw [List.getElem_take, ← rdS_get ls j (by omega)]
    exact h j (by omega) (by omega))
  have h2 : (ls.take i).length ≤ ls.length := by rw [List.length_take]; omega
  omega
theorem textL_ge : ∀ (l : List (List UInt8)), l.length ≤ (textL l).length
  | [] => by simp [textL]
  | x :: l => by
    have := textL_ge l
    rw [textL_cons, List.length_append, List.length_cons, List.length_cons]
    omega
/-- A section of a text's lines, and where the i-th one stands. -/
theorem topSect (B : List Int) (hB : B.length ≤ 9000000) (r : List Int) (hr : r = sectW 3 B) (hb : B.all byteB = true) (q : Nat) (hq : q = 1 + (lebPut (B.length : Int)).length) :
    r.length = q + (B.length + 4) ∧ r.all byteB = true ∧ r.getD 0 0 = 3 ∧ lebTake (r.take r.length) ((0 + 1 : Nat) : Int) = ((B.length : Int), ((q : Nat) : Int), 0) ∧ (openL (cutN r q (B.length + 4))).2 = 0 ∧ r.take (q + B.length) = [3] ++ lebPut (B.length : Int) ++ B ∧ r = [3] ++ lebPut (B.length : Int) ++ (B ++ sumBytes (crcSum B)) := by
  have hrB : r = sectB 3 B.length (sealL B) := by rw [hr, sectW_B]
  refine ⟨by rw [hrB, sectB_len, sealL_len, hq], by rw [hrB]; exact sectB_bytes (by decide) _ (sealL_bytes hb), by rw [hrB]; rfl, by rw [hrB, sectB_num 3 _ (by omega), hq], by rw [hrB, hq, sectB_cut 3 _ _ _ (sealL_len B), openL_sealL], ?_, ?_⟩
  · rw [hr]
    unfold sectW sealL
    rw [← List.append_assoc, List.take_left' (by simp; omega)]
  · rw [hr]
    rfl
theorem topRead (ls : List ByteArray) (B r : List Int) (q i : Nat) (hi : i < ls.length) (hz : (rdOf ByteArray.empty ls (i : Int)).size ≤ 64) (hBl : B = catW ls) (hq : q = 1 + (lebPut (B.length : Int)).length) (hT : r.take (q + B.length) = [3] ++ lebPut (B.length : Int) ++ B) (hr : r = [3] ++ lebPut (B.length : Int) ++ (B ++ sumBytes (crcSum B))) :
    ∃ n : Nat, lebTake (r.take (q + B.length)) ((q + (catW (ls.take i)).length : Nat) : Int) = (((rdOf ByteArray.empty ls (i : Int)).size : Int), (n : Int), 0) ∧ cutN r n (rdOf ByteArray.empty ls (i : Int)).size = bytesOf (rdOf ByteArray.empty ls (i : Int)) ∧ n + (rdOf ByteArray.empty ls (i : Int)).size = q + (catW (ls.take (i + 1))).length ∧ n + (rdOf ByteArray.empty ls (i : Int)).size ≤ q + B.length := by
  have hs := catW_split ls i hi
  have hs1 := catW_succ ls i hi
  obtain ⟨x, hx⟩ : ∃ x, x = rdOf ByteArray.empty ls (i : Int) := ⟨_, rfl⟩
  rw [← hx] at hs hs1 hz ⊢
  obtain ⟨u, hu⟩ : ∃ u, u = catW (ls.take i) := ⟨_, rfl⟩
  obtain ⟨v, hv⟩ : ∃ v, v = catW (ls.drop (i + 1)) := ⟨_, rfl⟩
  rw [← hu, ← hv] at hs
  rw [← hu] at hs1 ⊢
  rw [hs1]
  have hB : B = u ++ (lebPut (x.size : Int) ++ bytesOf x) ++ v := by rw [hBl, hs]; rfl
  have hBlen : B.length = u.length + ((lebPut (x.size : Int)).length + x.size) + v.length := by
    rw [hB]
    simp only [List.length_append, bytesOf_length]
  have hp := lebPut_length_le (x.size : Int)
  refine ⟨q + u.length + (lebPut (x.size : Int)).length, ?_, ?_, ?_, ?_⟩
  · refine take_mid (p := [3] ++ lebPut (B.length : Int) ++ u) (q := bytesOf x ++ v) ?_ (by rw [hq]; simp; omega) (u64B_iff.2 ⟨by omega, by omega⟩)
    rw [hT]
    conv => lhs; rw [show [3] ++ lebPut (B.length : Int) ++ B = [3] ++ lebPut (B.length : Int) ++ (u ++ (lebPut (x.size : Int) ++ bytesOf x) ++ v) from congrArg (fun z => [3] ++ lebPut (B.length : Int) ++ z) hB]
    simp only [List.append_assoc]
  · refine cut_mid' (p := [3] ++ lebPut (B.length : Int) ++ u ++ lebPut (x.size : Int)) (q := v ++ sumBytes (crcSum B)) ?_ (by rw [hq]; simp; omega) (bytesOf_length x)
    rw [hr]
    conv => lhs; rw [show [3] ++ lebPut (B.length : Int) ++ (B ++ sumBytes (crcSum B)) = [3] ++ lebPut (B.length : Int) ++ ((u ++ (lebPut (x.size : Int) ++ bytesOf x) ++ v) ++ sumBytes (crcSum B)) from congrArg (fun z => [3] ++ lebPut (B.length : Int) ++ (z ++ sumBytes (crcSum B))) hB]
    simp only [List.append_assoc]
  · simp only [List.length_append, textW, bytesOf_length]
    omega
  · omega
theorem C_belowB {B : Nat} {w w' : World} {A : Option Addr} {l : List Int} (h : Kd.C (Kd.int .u8) w A l.length l) (hb : Below B w w') (hA : ∀ ad, A = some ad → ad.block < B) : Kd.C (Kd.int .u8) w' A l.length l := by
  have hR := Kd.reads_of_C (d := (0 : Int)) h
  refine Kd.C_of_reads (d := (0 : Int)) (h1 := fun _ => rfl) ⟨hR.1, hR.2.1, fun hp => ?_⟩
  obtain ⟨ad, e, hc⟩ := hR.2.2 hp
  exact ⟨ad, e, fun j hj => by rw [← hc j hj]; exact hb.cell (by rw [add_block]; exact hA ad e)⟩
theorem rd_belowB {B : Nat} {w w' : World} {b : Nat} {A : Option Addr} {c : Nat} {l : List Int} {m ix : Nat} {e fa : Int} (h : RdW w b A c l m ix e fa) (hb : Below B w w') (hbB : b < B) (hA : ∀ ad, A = some ad → ad.block < B) : RdW w' b A c l m ix e fa :=
  ⟨(hb.block b hbB).trans h.1, C_belowB h.2 hb hA⟩
set_option maxHeartbeats 8000000 in
set_option maxRecDepth 100000 in
theorem top_lines (s : ByteArray) (w : World) (hs : s.size ≤ 9000) (hG : CrcTab w) (hM : MaxL w) :
    Calls Tryd.prog 36 #[.string s] w fun e w' => e = .returned (.bool true) ∧ Below w.heap.size w w' := by
  obtain ⟨lz, e, f, hL⟩ : ∃ lz e f, linesL (bl s) = (lz, e, f) := ⟨_, _, _, rfl⟩
  have HW := Aside0.mk (word_Lines.calls s (lz.map lb) e f w hM (by unfold word_Lines.f; rw [if_pos (by omega), hL]))
  have HG := Aside0.mk hG
  by_cases he : e = 0
  · subst he
    obtain ⟨hT, hf⟩ := lines_back _ _ _ hL
    obtain ⟨ls, hls⟩ : ∃ ls, ls = lz.map lb := ⟨_, rfl⟩
    rw [← hls] at HW
    have hmap : ls.map bl = lz := by rw [hls, List.map_map]; simp [Function.comp_def]
    have hlen : ls.length ≤ 9000 := by
      have h1 := textL_ge lz
      rw [hT, bl_len] at h1
      rw [hls, List.length_map]
      omega
    have HT : Aside0 (word_Text.f ls = some s) := ⟨by
      unfold word_Text.f
      rw [hmap, hT, bl_len, if_pos (by omega), lb_bl]⟩
    clear hL hT hf hls hmap hG hM
    go_enter Tryd.func36, Tryd.ntmps36
    go_wp2_with fail
    refine HW.out.mono ?_
    rintro e_ w1 ⟨v1, rfl, hR1, hB1⟩
    obtain ⟨A1, c1, rfl, hc1, hC1⟩ := Kd.R_reads hR1
    have HC1 := Aside0.mk hC1
    have HB1 := Aside0.mk hB1
    clear hR1 hB1 hC1
    go_wp2_with fail
    have HBa := Aside0.mk (below_alloc (Below.refl w1.heap.size w1) (Obj.cells #[.int .i64 0, .int .i64 f] 31))
    go_loopw [5, 6] (fun v5 v6 wr => ∃ i : Nat, v6 = .int .i64 (i : Int) ∧ i ≤ ls.length ∧ Aside0 (∀ j, j < i → j < ls.length → (rdOf ByteArray.empty ls (j : Int)).size ≤ 64) ∧ Aside0 (Kd.R (Kd.int .u8) 5 wr w1.heap.size (fun _ => True) v5 (catW (ls.take i))) ∧ Aside0 (Below w1.heap.size w1 wr)) (fun _ v6 _ => ls.length - (intOf v6).toNat)
    case atStart => exact ⟨0, rfl, Nat.zero_le _, ⟨fun j h => absurd h (Nat.not_lt_zero j)⟩, ⟨Kd.R_nil _ _ _ _ _⟩, HBa⟩
    case round =>
      obtain ⟨i, rfl, hi, HZ, HR, HB⟩ := hrel
      clear HBa
      by_cases hlt : i < ls.length
      · have p1 : (0 ≤ (i : Int)) = True := eq_true (by omega)
        have q1 : ((i : Int) < (ls.length : Int)) = True := eq_true (by omega)
        have d1 : decide ((i : Int) < (ls.length : Int)) = true := decide_eq_true (by omega)
        have d2 : decide (i < ls.length) = true := decide_eq_true hlt
        have d3 : decide (0 ≤ (i : Int)) = true := decide_eq_true (by omega)
        obtain ⟨ad, rfl, hcell⟩ := Kd.at_string (Kd.C_below HC1.out HB.out) (i : Int) (by omega) (by omega)
        have HS := Aside0.mk (catW_succ ls i hlt)
        have HL := Aside0.mk (catW_take_len ls i HZ.out)
        obtain ⟨x, hx⟩ : ∃ x, x = rdOf ByteArray.empty ls (i : Int) := ⟨_, rfl⟩
        rw [← hx, Int.toNat_natCast] at hcell
        rw [← hx] at HS
        have HX := Aside0.mk hx
        clear hx
        by_cases hx6 : 64 < x.size
        · have e1 : decide ((x.size : Int) > 64) = true := decide_eq_true (by omega)
          have e2 : decide ((64 : Int) < (x.size : Int)) = true := decide_eq_true (by omega)
          have e3 : decide (64 < x.size) = true := decide_eq_true hx6
          go_wp2_with fail
          go_ret
          exact ⟨rfl, below_step HB1.out HB.out⟩
        · have e1 : decide ((x.size : Int) > 64) = false := decide_eq_false (by omega)
          have e2 : decide ((64 : Int) < (x.size : Int)) = false := decide_eq_false (by omega)
          have e3 : decide (64 < x.size) = false := decide_eq_false hx6
          have hw : IntKind.i64.wrap ((i : Int) + 1) = ((i + 1 : Nat) : Int) := by rw [IntKind.wrap_i64]; omega
          have HTx := Aside0.mk (fun W => wire_Text.calls x (textW x) W (by unfold wire_Text.f; rw [if_pos (by omega)]))
          have HXl := Aside0.mk (textW_len x)
          go_wp2_with fail
          refine (HTx.out _).mono ?_
          rintro e_ w2 ⟨v2, rfl, hR2, hB2⟩
          obtain ⟨A2, c2, rfl, hc2, hC2⟩ := Kd.R_reads hR2
          have hB2' := below_step HB.out hB2
          have hO2 := Kd.R_below HR.out hB2
          go_wp2_with (at_builtin; refine Kd.R_append_rows (Kd.int .u8) (w0 := w1) w1.heap.size rfl (.tmp 30) (.tmp 35) 22 5 (.int .u8 0) 1 rfl Tryd.underlying22 leb_info rfl (by decide) (by omega) u5 (catW (ls.take i)) (textW x) _ _ _ (fun _ => True) (fun _ => False) rfl rfl ?aO ?aR (fun _ _ h => h) (fun _ h => h.elim) ?aF ?aB ?aS ?aL ?_; (case aR => exact hC2); (case aB => exact hB2'); (case aF => exact (fun _ _ => trivial)); (case aO => exact hO2); (case aS => exact hB2'.size); (case aL => (have h1_ := HXl.out; have h2_ := HL.out; omega)); intro v3 w3 hR3 hB3 hg3 hat3)
          rw [← HS.out] at hR3
          have HR3 := Aside0.mk hR3
          have HB3 := Aside0.mk hB3
          clear hR3 hB3 hg3 hat3 hO2 hB2' hB2 hR2 hC2 hc2 hcell
          go_wp2
          go_roundw
          case rel => exact ⟨i + 1, by go_num, hlt, ⟨fun j hj hjl => by
            by_cases h : j < i
            · exact HZ.out j h hjl
            · have : j = i := by omega
              rw [this, ← HX.out]
              omega⟩, HR3, HB3⟩
          case measure => simp [intOf]; omega
      · have hil : i = ls.length := by omega
        subst hil
        have d1 : decide ((ls.length : Int) < (ls.length : Int)) = false := decide_eq_false (by omega)
        have d2 : decide (ls.length < ls.length) = false := decide_eq_false (by omega)
        obtain ⟨B, hB⟩ : ∃ B, B = catW ls := ⟨_, rfl⟩
        have HRB : Aside0 (Kd.R (Kd.int .u8) 5 wr w1.heap.size (fun _ => True) u5 B) := ⟨by have := HR.out; rw [List.take_length, ← hB] at this; exact this⟩
        have hBl : B.length ≤ 9000000 := by
          have := catW_take_len ls ls.length HZ.out
          rw [List.take_length, ← hB] at this
          omega
        have hBb : B.all byteB = true := by rw [hB]; exact catW_bytes ls
        obtain ⟨r, hr⟩ : ∃ r, r = sectW 3 B := ⟨_, rfl⟩
        obtain ⟨q, hq⟩ : ∃ q, q = 1 + (lebPut (B.length : Int)).length := ⟨_, rfl⟩
        obtain ⟨t1, t2, t3, t4, t5, t6, t7⟩ := topSect B hBl r hr hBb q hq
        have hq1 : q ≤ 11 := by have := lebPut_length_le (B.length : Int); omega
        have HSe : Aside0 (∀ A c W, Kd.C (Kd.int .u8) W A B.length B → B.length ≤ c → CrcTab W → Calls Tryd.prog 17 #[.int .u8 3, .slice A B.length c] W fun e w' => ∃ v0_ : Value, e = .returned (v0_) ∧ Kd.R (Kd.int .u8) 5 w' W.heap.size (fun _ => True) v0_ r ∧ Below W.heap.size W w') := ⟨fun A c W hC hc hG => wire_Section.calls 3 A c B r W hC hc hG (by unfold wire_Section.f; rw [if_pos ⟨hBb, by omega⟩, hr])⟩
        have HOp := Aside0.mk (fun A c W (hC : Kd.C (Kd.int .u8) W A r.length r) (hc : r.length ≤ c) => wire_Open A c r W hC hc t2 (by omega))
        obtain ⟨A3, c3, rfl, hc3, hC3⟩ := Kd.R_reads HRB.out
        have hBw := below_step HB1.out HB.out
        have HT3 := Aside0.mk t3; have HT4 := Aside0.mk t4; have HT5 := Aside0.mk t5; have HT6 := Aside0.mk t6; have HT7 := Aside0.mk t7
        have HBE := Aside0.mk hB; have HQE := Aside0.mk hq; have HL1 := Aside0.mk t1
        clear t1 t2 t3 t4 t5 t6 t7 hB hr hq hBb
        go_wp2_with fail
        refine (HSe.out A3 c3 wr hC3 hc3 (HG.out.below hBw)).mono ?_
        rintro e_ w4 ⟨v4, rfl, hR4, hB4⟩
        obtain ⟨A4, c4, rfl, hc4, hC4⟩ := Kd.R_reads hR4
        have hBw4 := below_step hBw hB4
        go_wp2_with fail
        refine (HOp.out A4 c4 w4 hC4 hc4).mono ?_
        rintro e_ w5 ⟨⟨g, A, c, rfl, hg5, hr5, hf5, ha5⟩, hB5⟩
        have hBw5 := below_step hBw4 hB5
        have HW5 : Aside0 (Below wr.heap.size wr w5) := ⟨below_step hB4 hB5⟩
        by_cases h6 : 65536 < B.length
        · have e1 : decide ((B.length : Int) > 65536) = true := decide_eq_true (by omega)
          have e2 : decide ((65536 : Int) < (B.length : Int)) = true := decide_eq_true (by omega)
          have e3 : decide (65536 < B.length) = true := decide_eq_true h6
          have HSn := Aside0.mk (wire_Section_long g A c r r.length 0 0 w5 hr5 hf5 3 (by have := HL1.out; omega) HT3.out _ q HT4.out (by omega) (by omega))
          go_wp2_with fail
          refine HSn.out.mono ?_
          rintro e_ w6 ⟨rfl, hr6, hg6⟩
          have hB6 := below_gr hBw5 hg6 (by have := hBw4.size; omega)
          go_wp2_with fail
          go_ret
          exact ⟨rfl, hB6⟩
        · have e1 : decide ((B.length : Int) > 65536) = false := decide_eq_false (by omega)
          have e2 : decide ((65536 : Int) < (B.length : Int)) = false := decide_eq_false (by omega)
          have e3 : decide (65536 < B.length) = false := decide_eq_false h6
          have HSn := Aside0.mk (wire_Section_some g A c r r.length 0 0 w5 hr5 hf5 3 (HG.out.below hBw5) (by have := HL1.out; omega) HT3.out _ q HT4.out B.length rfl (by omega) (by have := HL1.out; omega) HT5.out)
          go_wp2_with fail
          refine HSn.out.mono ?_
          rintro e_ w6 ⟨⟨D, rfl, hD6, hrD, hfD⟩, hr6, hg6⟩
          have hB6 := below_gr hBw5 hg6 (by have := hBw4.size; omega)
          go_wp2_with fail
          have hA6 : ∀ ad, A = some ad → ad.block < w6.heap.size := C_far hrD.2 (by have := HL1.out; omega)
          have hDw : w.heap.size ≤ D ∧ D < w6.heap.size ∧ w.heap.size ≤ w6.heap.size := ⟨by have := hBw5.size; omega, rd_lt hrD, hB6.size⟩
          have HRd6 : Aside0 (RdW w6 D A c r (q + B.length) (q + (catW (ls.take 0)).length) 0 0) := ⟨hrD⟩
          have HB6 := Aside0.mk hB6
          have HfD := Aside0.mk hfD
          have HA6 := Aside0.mk hA6
          have HDw := Aside0.mk hDw
          clear hrD hB6 hfD hA6 hDw hr6 hg6 hBw5 HW5 hB5 hr5 hf5 ha5 hg5 hBw4 hB4 hR4 hC4 hc4 hBw hC3 hc3 HSn hD6 HR HB HRB
          obtain ⟨wo, hwo⟩ : ∃ wo : World, wo = wr := ⟨_, rfl⟩
          clear hwo
          go_loopw [8, 9] (fun v8 v9 wr => ∃ i : Nat, v9 = .int .i64 (i : Int) ∧ i ≤ ls.length ∧ Aside0 (Kd.R Kd.string 9 wr w6.heap.size (fun _ => True) v8 (ls.take i)) ∧ Aside0 (RdW wr D A c r (q + B.length) (q + (catW (ls.take i)).length) 0 0) ∧ Aside0 (Below w.heap.size w wr) ∧ Aside0 (w6.heap.size ≤ wr.heap.size)) (fun _ v9 _ => ls.length - (intOf v9).toNat)
          case atStart => exact ⟨0, rfl, Nat.zero_le _, ⟨Kd.R_nil _ _ _ _ _⟩, HRd6, HB6, ⟨Nat.le_refl _⟩⟩
          case round =>
            obtain ⟨i, rfl, hi, HO, HRd, HBw, HSz⟩ := hrel
            clear HRd6
            by_cases hlt : i < ls.length
            · have d1 : decide ((i : Int) < (ls.length : Int)) = true := decide_eq_true (by omega)
              have d2 : decide (i < ls.length) = true := decide_eq_true hlt
              have hw : IntKind.i64.wrap ((i : Int) + 1) = ((i + 1 : Nat) : Int) := by rw [IntKind.wrap_i64]; omega
              obtain ⟨n, k1, k2, k3, k4⟩ := topRead ls B r q i hlt (HZ.out i hlt hlt) HBE.out HQE.out HT6.out HT7.out
              have hz := HZ.out i hlt hlt
              have htk : ls.take (i + 1) = ls.take i ++ [rdOf ByteArray.empty ls (i : Int)] := by rw [List.take_succ_eq_append_getElem hlt, rdS_get ls i hlt]
              obtain ⟨x, hx⟩ : ∃ x, x = rdOf ByteArray.empty ls (i : Int) := ⟨_, rfl⟩
              rw [← hx] at k1 k2 k3 k4 hz htk
              have HTx : Aside0 (∀ W, RdW W D A c r (q + B.length) (q + (catW (ls.take i)).length) 0 0 → Calls Tryd.prog 27 #[.pointer (some ⟨D, 0, none⟩)] W fun x_ w' => x_ = .returned (.string x) ∧ RdW w' D A c r (q + B.length) (q + (catW (ls.take (i + 1))).length) 0 0 ∧ W.grownBy w' (some D)) := ⟨fun W hr => by
                have := wire_Text_some D A c r (q + B.length) (q + (catW (ls.take i)).length) 0 W hr HfD.out _ n k1 x.size rfl hz k4
                rw [k2, str_bytes, k3] at this
                exact this⟩
              have HTk := Aside0.mk htk
              have HTl : Aside0 ((ls.take i).length ≤ 9000) := ⟨by rw [List.length_take]; omega⟩
              clear k1 k2 k3 k4 hx hz htk
              go_wp2_with fail
              refine (HTx.out _ HRd.out).mono ?_
              rintro e_ w7 ⟨rfl, hr7, hg7⟩
              have hO7 := Kd.R_grown2 HO.out rfl hg7 (fun k e => by cases e; exact Kd.R_ne HO.out HRd.out.1 (by decide))
              have hB7 := below_gr HBw.out hg7 HDw.out.1
              have hS7 : w6.heap.size ≤ w7.heap.size := Nat.le_trans HSz.out hg7.size
              go_wp2_with (at_builtin; refine Kd.R_append Kd.string (w0 := w7) w6.heap.size rfl (.tmp 52) (.tmp 55) 57 9 (.string ⟨#[]⟩) 16 rfl Tryd.underlying57 lines_info rfl (by decide) (by omega) u8 (ls.take i) x [.string x] (fun _ => True) (fun _ => False) rfl rfl ?aP (fun _ hk => hk.elim) ?aF ?aO ?aB ?aS ?aL ?_; (case aP => exact rfl); (case aB => exact Below.refl _ _); (case aF => exact (fun _ _ => trivial)); (case aO => exact hO7); (case aS => exact hS7); (case aL => (have h1_ := HTl.out; omega)); intro v9 w8 hR8 hB8 hg8 hat8)
              rw [← HTk.out] at hR8
              have HR8 := Aside0.mk hR8
              have HRd8 := Aside0.mk (rd_belowB hr7 hB8 HDw.out.2.1 HA6.out)
              have HB8 := Aside0.mk (hB7.trans (hB8.mono HDw.out.2.2))
              have HS8 := Aside0.mk (Nat.le_trans hS7 hB8.size)
              clear hR8 hB8 hg8 hat8 hS7 hB7 hO7 hr7 hg7
              go_wp2
              go_roundw
              case rel => exact ⟨i + 1, by go_num, hlt, HR8, HRd8, HB8, HS8⟩
              case measure => simp [intOf]; omega
            · have hil : i = ls.length := by omega
              subst hil
              have d1 : decide ((ls.length : Int) < (ls.length : Int)) = false := decide_eq_false (by omega)
              have d2 : decide (ls.length < ls.length) = false := decide_eq_false (by omega)
              have HOe : Aside0 (Kd.R Kd.string 9 wr w6.heap.size (fun _ => True) u8 ls) := ⟨by have := HO.out; rw [List.take_length] at this; exact this⟩
              have HRe : Aside0 (RdW wr D A c r (q + B.length) (q + B.length) 0 0) := ⟨by have := HRd.out; rw [List.take_length, ← HBE.out] at this; exact this⟩
              obtain ⟨A8, c8, rfl, hc8, hC8⟩ := Kd.R_reads HOe.out
              have HEn := Aside0.mk (wire_End_some D A c r (q + B.length) (q + B.length) 0 wr HRe.out HfD.out rfl)
              have HC8 := Aside0.mk hC8
              clear hC8
              go_wp2_with fail
              refine HEn.out.mono ?_
              rintro e_ w7 ⟨rfl, hr7, hg7⟩
              have hO7 := Kd.R_grown2 HOe.out rfl hg7 (fun k e => by cases e; exact Kd.R_ne HOe.out HRe.out.1 (by decide))
              have hC7 := (Kd.R_reads' hO7).2.2
              have hB7 := below_gr HBw.out hg7 HDw.out.1
              have HTt := Aside0.mk (word_Text.calls A8 c8 ls s w7 hC7 hc8 HT.out)
              go_wp2_with fail
              refine HTt.out.mono ?_
              rintro e_ w8 ⟨rfl, hB8⟩
              go_wp2
              go_ret
              exact ⟨by simp, below_step hB7 hB8⟩
  · have he' : (e != 0) = true := by simp [he]
    have he2 : (e == 0) = false := beq_eq_false_iff_ne.2 he
    clear hG hM hL
    go_enter Tryd.func36, Tryd.ntmps36
    go_wp2_with (go_at_call 40; refine HW.out.mono ?_; rintro e_ w1 ⟨v1, rfl, hR1, hB1⟩)
    go_ret
    exact ⟨rfl, below_alloc hB1 _⟩
theorem C_str1 {W : World} {g : Nat} {x : ByteArray} (h : W.heap[g]? = some (.cells #[.string x] 9 (0, 0))) : Kd.C Kd.string W (some ⟨g, 0, none⟩) 1 [x] := by
  refine Kd.C_of_reads (d := ByteArray.empty) (h1 := fun _ => rfl) ⟨rfl, by decide, fun _ => ⟨_, rfl, fun j hj => ?_⟩⟩
  obtain rfl : j = 0 := by simpa using hj
  have h0 := blk_cell h 0
  simp only [List.getElem?_toArray, List.getElem?_cons_zero] at h0
  exact h0
set_option maxHeartbeats 8000000 in
set_option maxRecDepth 100000 in
theorem TopLines_walk (a0 : ByteArray) (w : World) (w0 : a0.size ≤ 140737488351232) (hG : CrcTab w) (hM : MaxL w) :
    Calls Tryd.prog 8 #[.string a0] w fun e w' => e = .returned (.bool true) ∧ Below w.heap.size w w' := by
  have HL1 := Aside0.mk (top_lines ⟨#[97, 32, 98, 10, 10]⟩ w (by decide) hG hM)
  have HL2 := Aside0.mk (fun (h : a0.size ≤ 9000) W (hB : Below w.heap.size w W) => top_lines a0 W h (hG.below hB) (max_below hM hB))
  have HTx : Aside0 (∀ g W, W.heap[g]? = some (.cells #[.string ⟨#[97]⟩] 9 (0, 0)) → Calls Tryd.prog 37 #[.slice (some ⟨g, 0, none⟩) 1 1] W fun e w' => e = .returned (.string ⟨#[97, 10]⟩) ∧ Below W.heap.size W w') := ⟨fun g W h => word_Text.calls (some ⟨g, 0, none⟩) 1 [⟨#[97]⟩] ⟨#[97, 10]⟩ W (C_str1 h) (Nat.le_refl _) rfl⟩
  clear hG hM
  by_cases h9 : 9000 < a0.size
  · have e1 : decide ((a0.size : Int) > 9000) = true := decide_eq_true (by omega)
    have e2 : decide ((9000 : Int) < (a0.size : Int)) = true := decide_eq_true (by omega)
    have e3 : decide (9000 < a0.size) = true := decide_eq_true h9
    clear HL2
    go_enter Tryd.func8, Tryd.ntmps8
    go_wp2_with fail
    refine HL1.out.mono ?_
    rintro e w1 ⟨rfl, hB1⟩
    go_wp2_with fail
    have hnew := World.alloc_heap_new w1 (.cells #[.string ⟨#[97]⟩] 9)
    refine (HTx.out _ _ hnew).mono ?_
    rintro e w2 ⟨rfl, hB2⟩
    have hB3 := below_step (below_alloc hB1 _) hB2
    go_wp2
    go_ret
    exact ⟨rfl, hB3⟩
  · have e1 : decide ((a0.size : Int) > 9000) = false := decide_eq_false (by omega)
    have e2 : decide ((9000 : Int) < (a0.size : Int)) = false := decide_eq_false (by omega)
    have e3 : decide (9000 < a0.size) = false := decide_eq_false h9
    have HL3 := Aside0.mk (HL2.out (by omega))
    clear HL2
    go_enter Tryd.func8, Tryd.ntmps8
    go_wp2_with fail
    refine HL1.out.mono ?_
    rintro e w1 ⟨rfl, hB1⟩
    go_wp2_with fail
    have hnew := World.alloc_heap_new w1 (.cells #[.string ⟨#[97]⟩] 9)
    refine (HTx.out _ _ hnew).mono ?_
    rintro e w2 ⟨rfl, hB2⟩
    have hB3 := below_step (below_alloc hB1 _) hB2
    go_wp2_with fail
    refine (HL3.out _ hB3).mono ?_
    rintro e w4 ⟨rfl, hB4⟩
    have hB5 := below_step hB3 hB4
    go_wp2
    go_ret
    exact ⟨rfl, hB5⟩
end Go.Proofs.YtmlbfepibfobaaaDoor.Hand
end
