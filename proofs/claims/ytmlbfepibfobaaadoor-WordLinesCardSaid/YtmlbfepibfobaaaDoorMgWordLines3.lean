import Derived.Test.YtmlbfepibfobaaaDoorMgWordLines2
import Derived.Test.YtmlbfepibfobaaaDoorProg
import Derived.Below
import Derived.Deep.Draws
import Derived.Deep.AppendLies
import Derived.Maps.AppendAt
import Derived.OwnWalk
import Derived.Laws.BytesArg
import Derived.Laws.MakeOwn
import Derived.Laws.OwnMore
import Derived.Deep.OwnRows
import Derived.Tactics
import Derived.Lib.ConvBytes
import Derived.Laws.Slices
import Derived.WalkKit
import Derived.KernelRfl
import Derived.RowKit3
import Derived.Deep.LoopGhost
import Derived.Deep.QuietTactic
import Derived.BigQuiet
import Derived.WideLaws
import Derived.Deep.DeepCutAuto
import Derived.Deep.CutBlock
import Derived.Deep.RegionHeld3
import Derived.Laws.Rows
import Derived.Lib.AppendStr
import Derived.ArgAppend
import Derived.Laws.IdiomCopy
import Derived.OrdersHeld
import Derived.Laws.BitsLemmas
import Derived.RowKit
import Derived.Test.YtmlbfepibfobaaaDoorWWords
import Derived.Test.YtmlbfepibfobaaaDoorWLast
import Derived.Test.YtmlbfepibfobaaaDoorWTab
import Derived.Test.YtmlbfepibfobaaaDoorWFour
import Derived.Test.YtmlbfepibfobaaaDoorWQPut
import Derived.Test.YtmlbfepibfobaaaDoorWApart
import Derived.Test.YtmlbfepibfobaaaDoorWArr
import Derived.Test.YtmlbfepibfobaaaDoorWZeros
import Derived.Test.YtmlbfepibfobaaaDoorWFoot
import Derived.Test.YtmlbfepibfobaaaDoorWKept
import Derived.Test.YtmlbfepibfobaaaDoorWShare
import Derived.Test.YtmlbfepibfobaaaDoorWN
import Derived.Test.YtmlbfepibfobaaaDoorWFootNe
import Derived.Test.YtmlbfepibfobaaaDoorWAt
import Derived.Test.YtmlbfepibfobaaaDoorWEqStruct
import Derived.Test.YtmlbfepibfobaaaDoorWRepsOne
import Derived.Test.YtmlbfepibfobaaaDoorWInv
import Derived.Test.YtmlbfepibfobaaaDoorWInvWords
import Derived.Test.YtmlbfepibfobaaaDoorWGuard
import Derived.Test.YtmlbfepibfobaaaDoorWNEv
import Derived.Test.YtmlbfepibfobaaaDoorWMore
import Derived.Test.YtmlbfepibfobaaaDoorMgWordLines1
section
namespace Go.Proofs.YtmlbfepibfobaaaDoor.Hand
open Go.RowKit Go.Shelf Go.Proofs.YtmlbfepibfobaaaDoorW.PrintWords Go.Proofs.YtmlbfepibfobaaaDoorW.PrintLast Go.Proofs.YtmlbfepibfobaaaDoorW.PrintMore
set_option linter.unusedVariables false
set_option linter.unusedSimpArgs false

/-! ### the document's lines, fields and texts -/
theorem bl_extract (s : ByteArray) (a b : Nat) : bl (s.extract a b) = ((bl s).take b).drop a := by
  unfold bl
  rw [ByteArray.data_extract]
  simp only [Array.toList_extract, List.extract_eq_drop_take']
theorem lb_inj {a b : List UInt8} (h : lb a = lb b) : a = b := by rw [← bl_lb a, ← bl_lb b, h]
theorem cat_lb (a b : List UInt8) : lb a ++ lb b = lb (a ++ b) := by
  apply bl_inj
  rw [bl_append]
  simp
theorem cut_ext (s : ByteArray) (a b : Nat) (h : a ≤ b) : s.extract a b = lb (((bl s).drop a).take (b - a)) := by
  apply bl_inj
  rw [bl_extract, bl_lb, List.drop_take]
theorem cur_next (s : ByteArray) (a i : Nat) (b : UInt8) (h : a ≤ i) (hi : (bl s)[i]? = some b) : ((bl s).drop a).take (i - a) ++ [b] = ((bl s).drop a).take (i + 1 - a) := by
  have e : i + 1 - a = (i - a) + 1 := by omega
  rw [e, List.take_add_one, List.getElem?_drop, show a + (i - a) = i from by omega, hi]
  rfl
def mapL (t : List (List UInt8) × Int × Int) : List ByteArray × Int × Int := (t.1.map lb, t.2)
theorem seen_bt {b : UInt8} {x : Int} (h : x = (b.toNat : Int)) : seen b = (!decide (x < 32) && !decide (x > 126)) := by
  unfold seen
  rw [Bool.eq_iff_iff]
  simp
  omega
theorem u8_is {b c : UInt8} {x : Int} (h : x = (b.toNat : Int)) : x = (c.toNat : Int) ↔ b = c := by
  constructor
  · intro e
    apply UInt8.toNat.inj
    omega
  · rintro rfl; exact h
theorem u8_is10 {b : UInt8} {x : Int} (h : x = (b.toNat : Int)) : x = 10 ↔ b = 10 := u8_is (c := 10) h
theorem u8_is32 {b : UInt8} {x : Int} (h : x = (b.toNat : Int)) : x = 32 ↔ b = 32 := u8_is (c := 32) h
theorem linesR_loop (s : ByteArray) (hs : s.size ≤ 65536) : ∀ (d k a i : Nat) (out : List (List UInt8)), s.size - i = d → a ≤ i → i ≤ s.size → out.length ≤ i → d < k →
    Q9.secateurref04_Lines.l0 k s (out.map lb) a i = some (mapL (lin (((bl s).drop a).take (i - a)) out ((bl s).drop i))) := by
  intro d
  induction d with
  | zero =>
    intro k a i out hd ha hi ho hk
    obtain ⟨k, rfl⟩ : ∃ j, k = j + 1 := ⟨k - 1, by omega⟩
    have hi2 : i = s.size := by omega
    subst hi2
    have hl := bl_len s
    rw [Q9.secateurref04_Lines.l0, if_neg (by omega), List.drop_of_length_le (i := s.size) (by omega), lin, List.length_map, wrap_in (by omega) (by omega)]
    by_cases h : a < s.size
    · rw [if_pos (by omega), if_neg]
      · rfl
      · intro e
        have := congrArg List.length e
        simp at this
        omega
    · rw [if_neg (by omega), if_pos]
      · rfl
      · rw [show s.size - a = 0 from by omega, List.take_zero]
  | succ d ih =>
    intro k a i out hd ha hi ho hk
    obtain ⟨k, rfl⟩ : ∃ j, k = j + 1 := ⟨k - 1, by omega⟩
    have hlt : i < s.size := by omega
    obtain ⟨b, hb1, hb2, hdr⟩ := bt_bl s i hlt
    have H10 := Aside0.mk (u8_is10 hb2)
    have HSN := Aside0.mk (seen_bt hb2)
    have HW : Aside0 (wrap64 ((i : Int) + 1) = ((i + 1 : Nat) : Int)) := ⟨by rw [wrap_in (by omega) (by omega)]; rfl⟩
    rw [Q9.secateurref04_Lines.l0, if_pos (by omega), if_pos (by omega), hdr, lin, HW.out]
    by_cases h1 : bt s i = 10
    · rw [if_pos h1, if_pos (by omega), if_pos (by omega), if_pos (by omega), if_pos (by rw [List.length_map]; omega), if_pos (H10.out.1 h1), Int.toNat_natCast, Int.toNat_natCast, cut_ext s a i ha]
      have ih := ih k (i + 1) (i + 1) (out ++ [((bl s).drop a).take (i - a)]) (by omega) (Nat.le_refl _) (by omega) (by simp; omega) (by omega)
      rw [List.map_append, Nat.sub_self, List.take_zero] at ih
      exact ih
    · rw [if_neg h1, if_neg (fun e => h1 (H10.out.2 e)), List.length_map]
      have HL1 : Aside0 (wrap64 ((out.length : Int) + 1) = (out.length : Int) + 1) := ⟨wrap_in (by omega) (by omega)⟩
      by_cases h2 : bt s i < 32
      · rw [if_pos h2, HSN.out, decide_eq_true h2, HL1.out]
        rfl
      · by_cases h3 : bt s i > 126
        · rw [if_neg h2, if_pos h3, HSN.out, decide_eq_true h3, decide_eq_false h2, HL1.out]
          rfl
        · have hsb : seen b = true := by rw [HSN.out, decide_eq_false h2, decide_eq_false h3]; rfl
          have ih := ih k a (i + 1) out (by omega) (by omega) (by omega) (by omega) (by omega)
          rw [if_neg h2, if_neg h3, hsb, if_pos rfl, ih, cur_next s a i b ha hb1]
def secateurref04_Lines.f (s : ByteArray) : Option (List ByteArray × Int × Int) := word_Lines.f s
theorem linesR_eq (s : ByteArray) : Q9.secateurref04_Lines.f (s.size + 1) s = some ((linesL (bl s)).1.map lb, (linesL (bl s)).2) := by
  unfold Q9.secateurref04_Lines.f linesL
  rw [bl_len]
  by_cases h : s.size > 65536
  · rw [if_pos (by omega), if_pos h]
    rfl
  · have := linesR_loop s (by omega) s.size (s.size + 1) 0 0 [] rfl (Nat.le_refl _) (Nat.zero_le _) (Nat.zero_le _) (by omega)
    rw [if_neg (by omega), if_neg h]
    exact this
theorem secateurref04_Lines.calls (a0 : ByteArray) (r1 : List ByteArray) (r2 r3 : Int) (w : World) (h : secateurref04_Lines.f a0 = some (r1, r2, r3)) :
    Calls Tryd.prog 41 #[.string a0] w fun e w' => ∃ v0_ : Value, e = .returned (.tuple #[v0_, .agg #[.int .i64 r2, .int .i64 r3]]) ∧ Kd.R Kd.string 9 w' w.heap.size (fun _ => True) v0_ r1 ∧ Below w.heap.size w w' := by
  unfold secateurref04_Lines.f word_Lines.f at h
  split at h
  · exact Q9.secateurref04_Lines.calls _ a0 r1 r2 r3 w ((linesR_eq a0).trans h)
  · cases h

theorem fieldsR_loop (s : ByteArray) (hs : s.size < 4294967281) : ∀ (d k a i : Nat) (out : List (List UInt8)), s.size - i = d → a ≤ i → i ≤ s.size → out.length ≤ i → d < k →
    Q9.secateurref04_Fields.l0 k s (out.map lb) a i = some ((out ++ fld (((bl s).drop a).take (i - a)) ((bl s).drop i)).map lb) := by
  intro d
  induction d with
  | zero =>
    intro k a i out hd ha hi ho hk
    obtain ⟨k, rfl⟩ : ∃ j, k = j + 1 := ⟨k - 1, by omega⟩
    have hi2 : i = s.size := by omega
    subst hi2
    have hl := bl_len s
    rw [Q9.secateurref04_Fields.l0, if_neg (by omega), if_pos (by omega), if_pos (by omega), if_pos (by rw [List.length_map]; omega), Int.toNat_natCast, cut_ext s a s.size ha, List.drop_of_length_le (i := s.size) (by omega), fld]
    simp
  | succ d ih =>
    intro k a i out hd ha hi ho hk
    obtain ⟨k, rfl⟩ : ∃ j, k = j + 1 := ⟨k - 1, by omega⟩
    have hlt : i < s.size := by omega
    obtain ⟨b, hb1, hb2, hdr⟩ := bt_bl s i hlt
    have H32 := Aside0.mk (u8_is32 hb2)
    have HW : Aside0 (wrap64 ((i : Int) + 1) = ((i + 1 : Nat) : Int)) := ⟨by rw [wrap_in (by omega) (by omega)]; rfl⟩
    rw [Q9.secateurref04_Fields.l0, if_pos (by omega), if_pos (by omega), hdr, fld, HW.out]
    by_cases h1 : bt s i = 32
    · rw [if_pos h1, if_pos (by omega), if_pos (by omega), if_pos (by omega), if_pos (by rw [List.length_map]; omega), if_pos (H32.out.1 h1), Int.toNat_natCast, Int.toNat_natCast, cut_ext s a i ha]
      have ih := ih k (i + 1) (i + 1) (out ++ [((bl s).drop a).take (i - a)]) (by omega) (Nat.le_refl _) (by omega) (by simp; omega) (by omega)
      rw [List.map_append, Nat.sub_self, List.take_zero] at ih
      rw [show List.map lb out ++ [lb (((bl s).drop a).take (i - a))] = List.map lb out ++ List.map lb [((bl s).drop a).take (i - a)] from rfl, ih]
      simp
    · have ih := ih k a (i + 1) out (by omega) (by omega) (by omega) (by omega) (by omega)
      rw [if_neg h1, if_neg (fun e => h1 (H32.out.2 e)), ih, cur_next s a i b ha hb1]
def secateurref04_Fields.f (s : ByteArray) : Option (List ByteArray) := word_Fields.f s
theorem secateurref04_Fields.calls (a0 : ByteArray) (r : List ByteArray) (w : World) (h : secateurref04_Fields.f a0 = some r) :
    Calls Tryd.prog 44 #[.string a0] w fun e w' => ∃ v0_ : Value, e = .returned (v0_) ∧ Kd.R Kd.string 9 w' w.heap.size (fun _ => True) v0_ r ∧ Below w.heap.size w w' := by
  unfold secateurref04_Fields.f word_Fields.f at h
  split at h
  · rename_i hs
    refine Q9.secateurref04_Fields.calls (a0.size + 1) a0 r w (Eq.trans ?_ h)
    exact fieldsR_loop a0 hs a0.size (a0.size + 1) 0 0 [] rfl (Nat.le_refl _) (Nat.zero_le _) (Nat.zero_le _) (by omega)
  · cases h

theorem rd_str (l : List ByteArray) (i : Nat) (h : i < l.length) : rdOf ByteArray.empty l (i : Int) = l[i] := by simp [rdOf, List.getElem?_eq_getElem h]
theorem textR_loop (l : List ByteArray) (hl : l.length ≤ 9223372036854775807) : ∀ (d k i : Nat) (acc : List UInt8), l.length - i = d → i ≤ l.length → d < k → acc.length + (textL ((l.map bl).drop i)).length ≤ 140737488355000 →
    Q9.secateurref04_Text.l0 k l (lb acc) i = some (lb (acc ++ textL ((l.map bl).drop i))) := by
  intro d
  induction d with
  | zero =>
    intro k i acc hd hi hk hb
    obtain ⟨k, rfl⟩ : ∃ j, k = j + 1 := ⟨k - 1, by omega⟩
    rw [Q9.secateurref04_Text.l0, if_neg (by omega), List.drop_of_length_le (by simp; omega)]
    simp [textL]
  | succ d ih =>
    intro k i acc hd hi hk hb
    obtain ⟨k, rfl⟩ : ∃ j, k = j + 1 := ⟨k - 1, by omega⟩
    have hlt : i < l.length := by omega
    have hdr : (l.map bl).drop i = bl l[i] :: (l.map bl).drop (i + 1) := by rw [List.drop_eq_getElem_cons (by simpa using hlt)]; simp
    have HW : Aside0 (wrap64 ((i : Int) + 1) = ((i + 1 : Nat) : Int)) := ⟨by rw [wrap_in (by omega) (by omega)]; rfl⟩
    rw [hdr, textL_cons, List.length_append, List.length_cons] at hb
    have e1 : (⟨#[10]⟩ : ByteArray) = lb [10] := rfl
    have e2 : l[i] = lb (bl l[i]) := (lb_bl _).symm
    have hsz := bl_len l[i]
    rw [Q9.secateurref04_Text.l0, if_pos (by omega), if_pos (by omega), rd_str l i hlt, if_pos (by omega), HW.out, e1]
    have e3 : l[i] ++ lb [10] = lb (bl l[i] ++ [10]) := by rw [e2, cat_lb]; simp
    rw [e3, if_pos (by rw [lb_size, lb_size]; simp; omega), cat_lb, ih k (i + 1) _ (by omega) (by omega) (by omega) (by simp; omega), hdr, textL_cons]
    simp
def secateurref04_Text.f (l0 : List ByteArray) : Option ByteArray := if l0.length ≤ 9223372036854775807 then word_Text.f l0 else none
theorem secateurref04_Text.calls (A0 : Option Addr) (c0 : Nat) (l0 : List ByteArray) (r : ByteArray) (w : World) (hr0 : Kd.C Kd.string w A0 l0.length l0) (hc0 : l0.length ≤ c0) (h : secateurref04_Text.f l0 = some r) :
    Calls Tryd.prog 46 #[.slice A0 l0.length c0] w fun e w' => e = .returned (.string r) ∧ Drawn0 w w' := by
  unfold secateurref04_Text.f word_Text.f at h
  split at h
  · rename_i hl
    split at h
    · rename_i hg
      refine Q9.secateurref04_Text.calls (l0.length + 1) A0 c0 l0 r w hr0 hc0 (Eq.trans ?_ h)
      have := textR_loop l0 hl l0.length (l0.length + 1) 0 [] rfl (Nat.zero_le _) (by omega) (by simpa using hg)
      exact this
    · cases h
  · cases h
/-- A line's rest, behind i fields. -/
def lineT : List (List UInt8) → List UInt8 := fun l => l.flatMap fun x => 32 :: x
theorem lineL_tail (x : List UInt8) : ∀ l, lineL (x :: l) = x ++ lineT l
  | [] => by simp [lineL, lineT]
  | y :: l => by
    rw [lineL_cons _ _ (by simp), lineL_tail y l]
    simp [lineT]
theorem lineR_loop (l : List ByteArray) (hl : l.length ≤ 9223372036854775807) : ∀ (d k i : Nat) (acc : List UInt8), l.length - i = d → i ≤ l.length → 0 < i → d < k → acc.length + (lineT ((l.map bl).drop i)).length ≤ 140737488355328 →
    Q9.secateurref04_Line.l0 k l (lb acc) i = some (lb (acc ++ lineT ((l.map bl).drop i))) := by
  intro d
  induction d with
  | zero =>
    intro k i acc hd hi h0 hk hb
    obtain ⟨k, rfl⟩ : ∃ j, k = j + 1 := ⟨k - 1, by omega⟩
    rw [Q9.secateurref04_Line.l0, if_neg (by omega), List.drop_of_length_le (by simp; omega)]
    simp [lineT]
  | succ d ih =>
    intro k i acc hd hi h0 hk hb
    obtain ⟨k, rfl⟩ : ∃ j, k = j + 1 := ⟨k - 1, by omega⟩
    have hlt : i < l.length := by omega
    have hdr : (l.map bl).drop i = bl l[i] :: (l.map bl).drop (i + 1) := by rw [List.drop_eq_getElem_cons (by simpa using hlt)]; simp
    have HW : Aside0 (wrap64 ((i : Int) + 1) = ((i + 1 : Nat) : Int)) := ⟨by rw [wrap_in (by omega) (by omega)]; rfl⟩
    have hT : lineT ((l.map bl).drop i) = 32 :: (bl l[i] ++ lineT ((l.map bl).drop (i + 1))) := by rw [hdr]; simp [lineT]
    rw [hT, List.length_cons, List.length_append] at hb
    have e1 : (⟨#[32]⟩ : ByteArray) = lb [32] := rfl
    have hsz := bl_len l[i]
    rw [Q9.secateurref04_Line.l0, if_pos (by omega), if_pos (by omega), if_pos (by rw [lb_size]; omega), if_pos (by omega), rd_str l i hlt, e1, cat_lb, if_pos (by rw [lb_size]; simp; omega), HW.out]
    have e3 : lb (acc ++ [32]) ++ l[i] = lb (acc ++ [32] ++ bl l[i]) := by conv => lhs; rw [← lb_bl l[i]]
                                                                           rw [cat_lb]
    rw [e3, ih k (i + 1) _ (by omega) (by omega) (by omega) (by omega) (by simp; omega), hT]
    simp
def secateurref04_Line.f (l0 : List ByteArray) : Option ByteArray := word_Line.f l0
theorem lineR_eq (l : List ByteArray) (hl : l.length ≤ 140737488355328) (hb : (lineL (l.map bl)).length ≤ 140737488355328) : Q9.secateurref04_Line.f (l.length + 2) l = some (lb (lineL (l.map bl))) := by
  unfold Q9.secateurref04_Line.f
  rw [show (⟨#[]⟩ : ByteArray) = lb [] from rfl, show l.length + 2 = (l.length + 1) + 1 from rfl, Q9.secateurref04_Line.l0]
  cases hc : l with
  | nil => simp [lineL]
  | cons x xs =>
    rw [hc] at hl hb
    rw [List.map_cons, lineL_tail, List.length_append] at hb
    have hsz := bl_len x
    have hr : rdOf ByteArray.empty (x :: xs) 0 = x := rfl
    have hlen : (x :: xs).length = xs.length + 1 := rfl
    rw [hlen] at hl ⊢
    rw [if_pos (by omega), if_neg (by omega), if_pos (by omega), hr, if_pos (by rw [lb_size]; simp; omega)]
    have e3 : lb [] ++ x = lb (bl x) := by conv => lhs; rw [← lb_bl x]
                                           rw [cat_lb]; rfl
    have := lineR_loop (x :: xs) (by rw [hlen]; omega) xs.length (xs.length + 1 + 1) 1 (bl x) (by rw [hlen]; omega) (by rw [hlen]; omega) (by decide) (by omega) (by simpa using hb)
    rw [e3, wrap_in (by omega) (by omega)]
    have e4 : ((0 : Int) + 1) = ((1 : Nat) : Int) := rfl
    rw [e4, this, List.map_cons, lineL_tail]
    rfl
theorem secateurref04_Line.calls (A0 : Option Addr) (c0 : Nat) (l0 : List ByteArray) (r : ByteArray) (w : World) (hr0 : Kd.C Kd.string w A0 l0.length l0) (hc0 : l0.length ≤ c0) (h : secateurref04_Line.f l0 = some r) :
    Calls Tryd.prog 47 #[.slice A0 l0.length c0] w fun e w' => e = .returned (.string r) ∧ Drawn0 w w' := by
  unfold secateurref04_Line.f word_Line.f at h
  split at h
  · rename_i hg
    exact Q9.secateurref04_Line.calls _ A0 c0 l0 r w hr0 hc0 ((lineR_eq l0 hg.2 hg.1).trans h)
  · cases h

theorem sameTexts_loop (l0 l1 : List ByteArray) (hl : l0.length = l1.length) (hm : l0.length ≤ 9223372036854775807) : ∀ (d k i : Nat), l0.length - i = d → i ≤ l0.length → d < k → Q9.secateurref01_SameTexts.l0 k l0 l1 i = some (decide (l0.drop i = l1.drop i)) := by
  intro d
  induction d with
  | zero =>
    intro k i hd hi hk
    obtain ⟨k, rfl⟩ : ∃ j, k = j + 1 := ⟨k - 1, by omega⟩
    rw [Q9.secateurref01_SameTexts.l0, if_neg (by omega), List.drop_of_length_le (by omega), List.drop_of_length_le (by omega)]
    rfl
  | succ d ih =>
    intro k i hd hi hk
    obtain ⟨k, rfl⟩ : ∃ j, k = j + 1 := ⟨k - 1, by omega⟩
    have h0 : i < l0.length := by omega
    have h1 : i < l1.length := by omega
    have HW : Aside0 (wrap64 ((i : Int) + 1) = ((i + 1 : Nat) : Int)) := ⟨by rw [wrap_in (by omega) (by omega)]; rfl⟩
    have e0 := List.drop_eq_getElem_cons h0
    have e1 := List.drop_eq_getElem_cons h1
    have ed : decide (l0.drop i = l1.drop i) = decide (l0[i] = l1[i] ∧ l0.drop (i + 1) = l1.drop (i + 1)) := by
      rw [decide_eq_decide, e0, e1, List.cons.injEq]
    rw [ed]
    clear ed e0 e1
    rw [Q9.secateurref01_SameTexts.l0, if_pos (by omega), if_pos (by omega), if_pos (by omega), rd_str l0 i h0, rd_str l1 i h1, HW.out, ByteArray.toList_eq, ByteArray.toList_eq, ih k (i + 1) (by omega) (by omega) (by omega)]
    by_cases he : l0[i].data.toList = l1[i].data.toList
    · have h2 : l0[i] = l1[i] := bl_inj he
      rw [if_pos he]
      simp [h2]
    · have h2 : l0[i] ≠ l1[i] := fun e => he (by rw [e])
      rw [if_neg he]
      simp [h2]
def secateurref01_SameTexts.f (l0 l1 : List ByteArray) : Option Bool := some (decide (l0 = l1))
theorem secateurref01_SameTexts.calls (A0 : Option Addr) (c0 : Nat) (l0 : List ByteArray) (A1 : Option Addr) (c1 : Nat) (l1 : List ByteArray) (r : Bool) (w : World) (hr0 : Kd.C Kd.string w A0 l0.length l0) (hc0 : l0.length ≤ c0) (hr1 : Kd.C Kd.string w A1 l1.length l1) (hc1 : l1.length ≤ c1) (h : secateurref01_SameTexts.f l0 l1 = some r) :
    Calls Tryd.prog 42 #[.slice A0 l0.length c0, .slice A1 l1.length c1] w fun e w' => e = .returned (.bool r) ∧ Drawn0 w w' := by
  obtain rfl := Option.some.inj h
  refine Q9.secateurref01_SameTexts.calls (l0.length + 1) A0 c0 l0 A1 c1 l1 _ w hr0 hc0 hr1 hc1 ?_
  unfold Q9.secateurref01_SameTexts.f
  by_cases hl : l0.length = l1.length
  · rw [if_pos (by omega)]
    have := sameTexts_loop l0 l1 hl (Kd.C_max hr0) l0.length (l0.length + 1) 0 rfl (Nat.zero_le _) (by omega)
    exact this
  · rw [if_neg (by omega)]
    have : l0 ≠ l1 := fun e => hl (by rw [e])
    simp [this]
end Go.Proofs.YtmlbfepibfobaaaDoor.Hand
end

section
-- Written by this session's program layer.py (the kit's print, turned), not by hand.
namespace Go.Proofs.YtmlbfepibfobaaaDoor.PWordLines
open Go.RowKit Go.Proofs.YtmlbfepibfobaaaDoorW.PrintWords Go.Proofs.YtmlbfepibfobaaaDoorW.PrintLast Go.Proofs.YtmlbfepibfobaaaDoorW.PrintMore Go.Proofs.YtmlbfepibfobaaaDoor.Hand
attribute [local go_sem] max2_int min2_int max_two min_two max_three min_three max_four min_four   -- for this text's walks alone
set_option linter.unusedVariables false
set_option linter.unusedSimpArgs false



def errW : Option Int → Value
  | none => .nilIface
  | some c => .iface 0 (.int .i64 c)
theorem errW_none : errW none = .nilIface := rfl
theorem errW_some (c : Int) : errW (some c) = .iface 0 (.int .i64 c) := rfl

theorem info9 : (Tryd.prog.info? 9).map (fun i => (i.zero, i.size, i.bytes)) = some (some (.string ⟨#[]⟩), 1, 16) := by kernel_rfl
-- the values' own types

end Go.Proofs.YtmlbfepibfobaaaDoor.PWordLines
end

section
-- Written by this session's program layer.py (the kit's print, turned), not by hand.
namespace Go.Proofs.YtmlbfepibfobaaaDoor.PWordLines
open Go.RowKit Go.Proofs.YtmlbfepibfobaaaDoorW.PrintWords Go.Proofs.YtmlbfepibfobaaaDoorW.PrintLast Go.Proofs.YtmlbfepibfobaaaDoorW.PrintMore Go.Proofs.YtmlbfepibfobaaaDoor.Hand
attribute [local go_sem] max2_int min2_int max_two min_two max_three min_three max_four min_four   -- for this text's walks alone
set_option linter.unusedVariables false
set_option linter.unusedSimpArgs false

theorem eqA31 (d : Nat) (w : World) (x0 y0 : Int) (x1 y1 : Int) :
    (Op.equalIn (d + 2) 31 (.agg #[.int .i64 x0, .int .i64 x1]) (.agg #[.int .i64 y0, .int .i64 y1])).run Tryd.prog w = .ok (x0 == y0 && (x1 == y1)) w := by
  refine eqA_of Tryd.underlying31 (by kernel_rfl) ?_
  refine eqf_cons (by rfl) (by go_simp; rfl) (by go_simp; rfl) (by go_simp) ?_
  exact eqf_last (by rfl) (by go_simp; rfl) (by go_simp; rfl) (by go_simp)
end Go.Proofs.YtmlbfepibfobaaaDoor.PWordLines
end

section
-- Written by this session's program layer.py (the kit's print, turned), not by hand.
namespace Go.Proofs.YtmlbfepibfobaaaDoor.PWordLines
open Go.RowKit Go.Proofs.YtmlbfepibfobaaaDoorW.PrintWords Go.Proofs.YtmlbfepibfobaaaDoorW.PrintLast Go.Proofs.YtmlbfepibfobaaaDoorW.PrintMore Go.Proofs.YtmlbfepibfobaaaDoor.Hand
attribute [local go_sem] max2_int min2_int max_two min_two max_three min_three max_four min_four   -- for this text's walks alone
set_option linter.unusedVariables false
set_option linter.unusedSimpArgs false

attribute [local go_sem high] eqA31
/-! ### secateurlaw04_great: function 38 -/
def secateurlaw04_great.f (a0 : ByteArray) : Option (Bool) := some (decide ((a0.size : Int) > 65544))
set_option maxHeartbeats 8000000 in
set_option maxRecDepth 100000 in
theorem secateurlaw04_great.calls (a0 : ByteArray) (r : Bool) (w : World) (h : secateurlaw04_great.f a0 = some r) :
    Calls Tryd.prog 38 #[.string a0] w fun e w' => e = .returned (.bool r) ∧ Drawn0 w w' := by
  have H : (some (decide ((a0.size : Int) > 65544))) = some r := h
  clear h
  obtain rfl := Option.some.inj H
  go_enter Tryd.func38, Tryd.ntmps38
  go_wp2
  go_ret
  exact ⟨by first | rfl | (simp; done) | (simp [*]; done), by repeat (first | exact Drawn0.refl _ | apply Drawn0.step)⟩

-- BY HAND: function 39 (secateurlaw04_live)

-- BY HAND: function 40 (word_Lines)

-- BY HAND: function 41 (secateurref04_Lines)

-- BY HAND: function 42 (secateurref01_SameTexts)

-- BY HAND: function 43 (word_Fields)

-- BY HAND: function 44 (secateurref04_Fields)

/-! ### secateurlaw04_WordLines: function 9 -/
def secateurlaw04_WordLines.f (a0 : ByteArray) : Option (Bool) := (secateurlaw04_great.f a0).bind fun t101 => (if t101 = true then ((secateurlaw04_live.f).bind fun t102 => (some t102)) else ((word_Lines.f a0).bind fun bt103 => ((secateurref04_Lines.f a0).bind fun bt109 => ((secateurlaw04_live.f).bind fun t115 => (if t115 = true then (if (bt103.2.1 == bt109.2.1 && (bt103.2.2 == bt109.2.2)) = true then ((secateurref01_SameTexts.f bt103.1 bt109.1).bind fun t116 => (if t116 = true then ((word_Fields.f a0).bind fun t117 => ((secateurref04_Fields.f a0).bind fun t120 => ((secateurref01_SameTexts.f t117 t120).bind fun t123 => (some t123)))) else (some false))) else (some false)) else (some false))))))
set_option maxHeartbeats 8000000 in
set_option maxRecDepth 100000 in
theorem secateurlaw04_WordLines.calls (a0 : ByteArray) (r : Bool) (w : World) (hGMaxL : MaxL w) (h : secateurlaw04_WordLines.f a0 = some r) :
    Calls Tryd.prog 9 #[.string a0] w fun e w' => e = .returned (.bool r) ∧ Below w.heap.size w w' := by
  have hu31 := Tryd.underlying31
  have HGMaxL := Aside0.mk hGMaxL
  clear hGMaxL
  have HB := Aside0.mk (Below.refl w.heap.size w)
  have H : ((secateurlaw04_great.f a0).bind fun t101 => (if t101 = true then ((secateurlaw04_live.f).bind fun t102 => (some t102)) else ((word_Lines.f a0).bind fun bt103 => ((secateurref04_Lines.f a0).bind fun bt109 => ((secateurlaw04_live.f).bind fun t115 => (if t115 = true then (if (bt103.2.1 == bt109.2.1 && (bt103.2.2 == bt109.2.2)) = true then ((secateurref01_SameTexts.f bt103.1 bt109.1).bind fun t116 => (if t116 = true then ((word_Fields.f a0).bind fun t117 => ((secateurref04_Fields.f a0).bind fun t120 => ((secateurref01_SameTexts.f t117 t120).bind fun t123 => (some t123)))) else (some false))) else (some false)) else (some false))))))) = some r := h
  clear h
  replace H := Option.bind_eq_some_iff.mp H
  obtain ⟨t101, A20, H⟩ := H
  replace H : (if t101 = true then ((secateurlaw04_live.f).bind fun t102 => (some t102)) else ((word_Lines.f a0).bind fun bt103 => ((secateurref04_Lines.f a0).bind fun bt109 => ((secateurlaw04_live.f).bind fun t115 => (if t115 = true then (if (bt103.2.1 == bt109.2.1 && (bt103.2.2 == bt109.2.2)) = true then ((secateurref01_SameTexts.f bt103.1 bt109.1).bind fun t116 => (if t116 = true then ((word_Fields.f a0).bind fun t117 => ((secateurref04_Fields.f a0).bind fun t120 => ((secateurref01_SameTexts.f t117 t120).bind fun t123 => (some t123)))) else (some false))) else (some false)) else (some false)))))) = some r := H
  have A2 := Aside0.mk A20
  clear A20
  by_cases c3 : t101 = true
  · subst c3
    have H1 : ((secateurlaw04_live.f).bind fun t102 => (some t102)) = some r := by rw [if_pos rfl] at H; exact H
    clear H
    have H := H1
    clear H1
    replace H := Option.bind_eq_some_iff.mp H
    obtain ⟨t102, A40, H⟩ := H
    replace H : (some t102) = some r := H
    have A4 := Aside0.mk A40
    clear A40
    obtain rfl := Option.some.inj H
    go_enter Tryd.func9, Tryd.ntmps9
    go_wp2_with (first | ((with_reducible refine gate_callee (f := 38) rfl ?_); refine goesL_ (some 8) rfl rfl Tryd.func38 (by kernel_rfl) rfl #[.string a0] rfl (by (try simp only [List.map_toArray, List.map_cons, List.map_nil]); first | done | rfl | (simp only [List.length_drop, List.length_take]; rfl)) ?_; (with_reducible refine (secateurlaw04_great.calls a0 true _ A2.out).mono ?_); rintro e w' ⟨rfl, ⟨nd, rfl⟩⟩; refine ⟨_, rfl, ?_⟩) | ((with_reducible refine gate_callee (f := 39) rfl ?_); refine goesL_ (some 9) rfl rfl Tryd.func39 (by kernel_rfl) rfl #[] rfl (by (try simp only [List.map_toArray, List.map_cons, List.map_nil]); first | done | rfl | (simp only [List.length_drop, List.length_take]; rfl)) ?_; (with_reducible refine (secateurlaw04_live.calls  t102 _ ?side1 A4.out).mono ?_); (case side1 => exact MaxL.below HGMaxL.out (by repeat (first | (with_reducible first | exact HB.out | apply below_alloc | apply pw_below_drewN | apply below_drew1) | exact HB.out))); rintro e w5 ⟨rfl, hb⟩; refine ⟨_, rfl, ?_⟩; have n0_ := Aside0.mk (below_step (by repeat (first | (with_reducible first | exact HB.out | apply below_alloc | apply pw_below_drewN | apply below_drew1) | exact HB.out)) hb); clear HB; have HB := n0_; clear n0_; (try clear hb); (try clear hb2); (try clear hk); (try clear hi)))
    go_ret
    exact ⟨by first | rfl | (simp [errW_none, errW_some] <;> rfl) | (simp [*, errW_none, errW_some] <;> rfl), by repeat (first | (with_reducible first | exact HB.out | apply below_alloc | apply pw_below_drewN | apply below_drew1) | exact HB.out)⟩
  · replace c3 := Bool.eq_false_iff.mpr c3
    subst c3
    have H1 : ((word_Lines.f a0).bind fun bt103 => ((secateurref04_Lines.f a0).bind fun bt109 => ((secateurlaw04_live.f).bind fun t115 => (if t115 = true then (if (bt103.2.1 == bt109.2.1 && (bt103.2.2 == bt109.2.2)) = true then ((secateurref01_SameTexts.f bt103.1 bt109.1).bind fun t116 => (if t116 = true then ((word_Fields.f a0).bind fun t117 => ((secateurref04_Fields.f a0).bind fun t120 => ((secateurref01_SameTexts.f t117 t120).bind fun t123 => (some t123)))) else (some false))) else (some false)) else (some false))))) = some r := by rw [if_neg (show ¬ (false = true) by decide)] at H; exact H
    clear H
    have H := H1
    clear H1
    replace H := Option.bind_eq_some_iff.mp H
    obtain ⟨⟨t103, t106, t107⟩, A60, H⟩ := H
    replace H : ((secateurref04_Lines.f a0).bind fun bt109 => ((secateurlaw04_live.f).bind fun t115 => (if t115 = true then (if (t106 == bt109.2.1 && (t107 == bt109.2.2)) = true then ((secateurref01_SameTexts.f t103 bt109.1).bind fun t116 => (if t116 = true then ((word_Fields.f a0).bind fun t117 => ((secateurref04_Fields.f a0).bind fun t120 => ((secateurref01_SameTexts.f t117 t120).bind fun t123 => (some t123)))) else (some false))) else (some false)) else (some false)))) = some r := H
    have A6 := Aside0.mk A60
    clear A60
    replace H := Option.bind_eq_some_iff.mp H
    obtain ⟨⟨t109, t112, t113⟩, A70, H⟩ := H
    replace H : ((secateurlaw04_live.f).bind fun t115 => (if t115 = true then (if (t106 == t112 && (t107 == t113)) = true then ((secateurref01_SameTexts.f t103 t109).bind fun t116 => (if t116 = true then ((word_Fields.f a0).bind fun t117 => ((secateurref04_Fields.f a0).bind fun t120 => ((secateurref01_SameTexts.f t117 t120).bind fun t123 => (some t123)))) else (some false))) else (some false)) else (some false))) = some r := H
    have A7 := Aside0.mk A70
    clear A70
    replace H := Option.bind_eq_some_iff.mp H
    obtain ⟨t115, A80, H⟩ := H
    replace H : (if t115 = true then (if (t106 == t112 && (t107 == t113)) = true then ((secateurref01_SameTexts.f t103 t109).bind fun t116 => (if t116 = true then ((word_Fields.f a0).bind fun t117 => ((secateurref04_Fields.f a0).bind fun t120 => ((secateurref01_SameTexts.f t117 t120).bind fun t123 => (some t123)))) else (some false))) else (some false)) else (some false)) = some r := H
    have A8 := Aside0.mk A80
    clear A80
    by_cases c9 : t115 = true
    · subst c9
      have H1 : (if (t106 == t112 && (t107 == t113)) = true then ((secateurref01_SameTexts.f t103 t109).bind fun t116 => (if t116 = true then ((word_Fields.f a0).bind fun t117 => ((secateurref04_Fields.f a0).bind fun t120 => ((secateurref01_SameTexts.f t117 t120).bind fun t123 => (some t123)))) else (some false))) else (some false)) = some r := by rw [if_pos rfl] at H; exact H
      clear H
      have H := H1
      clear H1
      by_cases c10 : (t106 == t112 && (t107 == t113)) = true
      · rw [if_pos c10] at H
        have c10b0 : (t106 == t112 && (t107 == t113)) = true := c10
        (try (have c10b1 : decide (t106 = t112 && (t107 == t113)) = true := by simpa using c10))
        (try (have c10b2 : (t106 == t112 && (t107 == t113)) = true := by simpa using c10))
        clear c10
        replace H := Option.bind_eq_some_iff.mp H
        obtain ⟨t116, A110, H⟩ := H
        replace H : (if t116 = true then ((word_Fields.f a0).bind fun t117 => ((secateurref04_Fields.f a0).bind fun t120 => ((secateurref01_SameTexts.f t117 t120).bind fun t123 => (some t123)))) else (some false)) = some r := H
        have A11 := Aside0.mk A110
        clear A110
        by_cases c12 : t116 = true
        · subst c12
          have H1 : ((word_Fields.f a0).bind fun t117 => ((secateurref04_Fields.f a0).bind fun t120 => ((secateurref01_SameTexts.f t117 t120).bind fun t123 => (some t123)))) = some r := by rw [if_pos rfl] at H; exact H
          clear H
          have H := H1
          clear H1
          replace H := Option.bind_eq_some_iff.mp H
          obtain ⟨t117, A130, H⟩ := H
          replace H : ((secateurref04_Fields.f a0).bind fun t120 => ((secateurref01_SameTexts.f t117 t120).bind fun t123 => (some t123))) = some r := H
          have A13 := Aside0.mk A130
          clear A130
          replace H := Option.bind_eq_some_iff.mp H
          obtain ⟨t120, A140, H⟩ := H
          replace H : ((secateurref01_SameTexts.f t117 t120).bind fun t123 => (some t123)) = some r := H
          have A14 := Aside0.mk A140
          clear A140
          replace H := Option.bind_eq_some_iff.mp H
          obtain ⟨t123, A150, H⟩ := H
          replace H : (some t123) = some r := H
          have A15 := Aside0.mk A150
          clear A150
          obtain rfl := Option.some.inj H
          go_enter Tryd.func9, Tryd.ntmps9
          go_wp2_with (first | ((with_reducible refine gate_callee (f := 38) rfl ?_); refine goesL_ (some 8) rfl rfl Tryd.func38 (by kernel_rfl) rfl #[.string a0] rfl (by (try simp only [List.map_toArray, List.map_cons, List.map_nil]); first | done | rfl | (simp only [List.length_drop, List.length_take]; rfl)) ?_; (with_reducible refine (secateurlaw04_great.calls a0 false _ A2.out).mono ?_); rintro e w' ⟨rfl, ⟨nd, rfl⟩⟩; refine ⟨_, rfl, ?_⟩) | ((with_reducible refine gate_callee (f := 40) rfl ?_); refine goesL_ (some 12) rfl rfl Tryd.func40 (by kernel_rfl) rfl #[.string a0] rfl (by (try simp only [List.map_toArray, List.map_cons, List.map_nil]); first | done | rfl | (simp only [List.length_drop, List.length_take]; rfl)) ?_; (with_reducible refine (word_Lines.calls a0 t103 t106 t107 _ ?side1 A6.out).mono ?_); (case side1 => exact MaxL.below HGMaxL.out (by repeat (first | (with_reducible first | exact HB.out | apply below_alloc | apply pw_below_drewN | apply below_drew1) | exact HB.out))); rintro e w16 ⟨v104, rfl, ho0, hb⟩; refine ⟨_, rfl, ?_⟩; have n0_ := Aside0.mk (Kd.R_lower ho0 (below_size (by repeat (first | (with_reducible first | exact HB.out | apply below_alloc | apply pw_below_drewN | apply below_drew1) | exact HB.out)))); have n1_ := Aside0.mk (below_step (by repeat (first | (with_reducible first | exact HB.out | apply below_alloc | apply pw_below_drewN | apply below_drew1) | exact HB.out)) hb); clear HB; have HO105 := n0_; have HB := n1_; clear n0_ n1_; (try clear hb); (try clear hb2); (try clear hk); (try clear hi); (try clear ho0)) | ((with_reducible refine gate_dst (N := 4) rfl ?_); refine box_event ?hg (N := 4) ?hd (cs := #[.int .i64 0, .int .i64 0]) (t := 31) ?hr ?_; (case hd => rfl); (case hg => rfl); (case hr => first | (go_simp; done) | (go_simp; rfl)); intro gb108 hg w17 hbox hb; have n0_ := Aside0.mk (Kd.R_below (by (with_reducible repeat (first | apply Kd.R_alloc | apply Kd.R_drewN | apply Kd.R_drew)); exact HO105.out) hb); have n1_ := Aside0.mk (below_step (by repeat (first | (with_reducible first | exact HB.out | apply below_alloc | apply pw_below_drewN | apply below_drew1) | exact HB.out)) hb); have n2_ := Aside0.mk (hbox); have n3_ := Aside0.mk ((by rw [hg]; exact (below_size (by repeat (first | (with_reducible first | exact HB.out | apply below_alloc | apply pw_below_drewN | apply below_drew1) | exact HB.out))) : w.heap.size ≤ gb108)); have n4_ := Aside0.mk ((by rw [hg]; exact (below_size (by repeat (first | (with_reducible first | exact HB.out | apply below_alloc | apply pw_below_drewN | apply below_drew1) | exact HB.out))) : w.heap.size ≤ gb108)); clear HO105; clear HB; have HO105 := n0_; have HB := n1_; have BK108 := n2_; have GW108 := n3_; have GE108 := n4_; clear n0_ n1_ n2_ n3_ n4_; clear hb hbox hg; have hcz18_0 : w17.cell? ⟨gb108, 0, none⟩ = some (.int .i64 0) := (blk_cell BK108.out 0).trans rfl; have hcz18_1 : w17.cell? ⟨gb108, 1, none⟩ = some (.int .i64 0) := (blk_cell BK108.out 1).trans rfl; have hfz18_0 := blk_frozen BK108.out 0; have hfz18_1 := blk_frozen BK108.out 1) | ((with_reducible refine gate_callee (f := 41) rfl ?_); refine goesL_ (some 17) rfl rfl Tryd.func41 (by kernel_rfl) rfl #[.string a0] rfl (by (try simp only [List.map_toArray, List.map_cons, List.map_nil]); first | done | rfl | (simp only [List.length_drop, List.length_take]; rfl)) ?_; (with_reducible refine (secateurref04_Lines.calls a0 t109 t112 t113 _ A7.out).mono ?_); rintro e w19 ⟨v110, rfl, ho0, hb⟩; refine ⟨_, rfl, ?_⟩; have n0_ := Aside0.mk (Kd.R_elder' (by (with_reducible repeat (first | apply Kd.R_alloc | apply Kd.R_drewN | apply Kd.R_drew)); exact (Kd.R_mono (Kd.R_far (p := ⟨gb108, 1, none⟩) (Kd.R_far (p := ⟨gb108, 0, none⟩) (Kd.R_types HO105.out BK108.out (by decide)) (fun _ hk => hk.2) (.int .i64 t106)) (fun _ hk => hk.2) (.int .i64 t107)) (fun _ h_ => h_.1))) (Kd.R_base ho0) hb); have n1_ := Aside0.mk (Kd.R_lower (Kd.R_new' ho0 (Kd.R_lt (by (with_reducible repeat (first | apply Kd.R_alloc | apply Kd.R_drewN | apply Kd.R_drew)); exact (Kd.R_mono (Kd.R_far (p := ⟨gb108, 1, none⟩) (Kd.R_far (p := ⟨gb108, 0, none⟩) (Kd.R_types HO105.out BK108.out (by decide)) (fun _ hk => hk.2) (.int .i64 t106)) (fun _ hk => hk.2) (.int .i64 t107)) (fun _ h_ => h_.1))))) (below_size (by repeat (first | (with_reducible first | exact HB.out | apply below_alloc | apply pw_below_drewN | apply below_drew1 | refine below_set ?_ GE108.out) | exact HB.out)))); have n2_ := Aside0.mk (blk_below (g := gb108) (o := .cells #[.int .i64 t106, .int .i64 t107] 31 (0, 0)) (by (with_reducible repeat (first | refine blk_drewN ?_ _ | refine blk_drew ?_ | refine blk_alloc ?_ _)); refine blk_put (cs := #[.int .i64 t106, .int .i64 0]) ?_ 1 _ rfl; (with_reducible repeat (first | refine blk_drewN ?_ _ | refine blk_drew ?_ | refine blk_alloc ?_ _)); refine blk_put (cs := #[.int .i64 0, .int .i64 0]) ?_ 0 _ rfl; (with_reducible repeat (first | refine blk_drewN ?_ _ | refine blk_drew ?_ | refine blk_alloc ?_ _)); exact BK108.out) hb); have n3_ := Aside0.mk (below_step (by repeat (first | (with_reducible first | exact HB.out | apply below_alloc | apply pw_below_drewN | apply below_drew1 | refine below_set ?_ GE108.out) | exact HB.out)) hb); clear HO105; clear BK108; clear HB; have HO105 := n0_; have HO111 := n1_; have BK108 := n2_; have HB := n3_; clear n0_ n1_ n2_ n3_; (try clear hb); (try clear hb2); (try clear hk); (try clear hi); (try clear ho0)) | ((with_reducible refine gate_dst (N := 6) rfl ?_); refine box_event ?hg (N := 6) ?hd (cs := #[.int .i64 0, .int .i64 0]) (t := 31) ?hr ?_; (case hd => rfl); (case hg => rfl); (case hr => first | (go_simp; done) | (go_simp; rfl)); intro gb114 hg w20 hbox hb; have n0_ := Aside0.mk (Kd.R_below (by (with_reducible repeat (first | apply Kd.R_alloc | apply Kd.R_drewN | apply Kd.R_drew)); exact HO105.out) hb); have n1_ := Aside0.mk (Kd.R_below (by (with_reducible repeat (first | apply Kd.R_alloc | apply Kd.R_drewN | apply Kd.R_drew)); exact HO111.out) hb); have n2_ := Aside0.mk (blk_below (g := gb108) (o := .cells #[.int .i64 t106, .int .i64 t107] 31 (0, 0)) (by (with_reducible repeat (first | refine blk_drewN ?_ _ | refine blk_drew ?_ | refine blk_alloc ?_ _)); exact BK108.out) hb); have n3_ := Aside0.mk (below_step (by repeat (first | (with_reducible first | exact HB.out | apply below_alloc | apply pw_below_drewN | apply below_drew1 | refine below_set ?_ GE108.out) | exact HB.out)) hb); have n4_ := Aside0.mk (hbox); have n5_ := Aside0.mk ((by rw [hg]; exact (below_size (by repeat (first | (with_reducible first | exact HB.out | apply below_alloc | apply pw_below_drewN | apply below_drew1 | refine below_set ?_ GE108.out) | exact HB.out))) : w.heap.size ≤ gb114)); have n6_ := Aside0.mk ((by rw [hg]; exact (below_size (by repeat (first | (with_reducible first | exact HB.out | apply below_alloc | apply pw_below_drewN | apply below_drew1 | refine below_set ?_ GE108.out) | exact HB.out))) : w.heap.size ≤ gb114)); have n7_ := Aside0.mk ((by rw [hg]; exact Nat.ne_of_lt (blk_lt (g := gb108) (o := .cells #[.int .i64 t106, .int .i64 t107] 31 (0, 0)) (by (with_reducible repeat (first | refine blk_drewN ?_ _ | refine blk_drew ?_ | refine blk_alloc ?_ _)); exact BK108.out)) : gb108 ≠ gb114)); have n8_ := Aside0.mk ((by rw [hg]; exact Nat.ne_of_gt (blk_lt (g := gb108) (o := .cells #[.int .i64 t106, .int .i64 t107] 31 (0, 0)) (by (with_reducible repeat (first | refine blk_drewN ?_ _ | refine blk_drew ?_ | refine blk_alloc ?_ _)); exact BK108.out)) : gb114 ≠ gb108)); clear HO105; clear HO111; clear BK108; clear HB; have HO105 := n0_; have HO111 := n1_; have BK108 := n2_; have HB := n3_; have BK114 := n4_; have GW114 := n5_; have GE114 := n6_; have NB108_114 := n7_; have NB114_108 := n8_; clear n0_ n1_ n2_ n3_ n4_ n5_ n6_ n7_ n8_; clear hb hbox hg; have hnb21 := NB114_108.out; have hnc21 := NB108_114.out; have hcz22_0 : w20.cell? ⟨gb114, 0, none⟩ = some (.int .i64 0) := (blk_cell BK114.out 0).trans rfl; have hcz22_1 : w20.cell? ⟨gb114, 1, none⟩ = some (.int .i64 0) := (blk_cell BK114.out 1).trans rfl; have hfz22_0 := blk_frozen BK114.out 0; have hfz22_1 := blk_frozen BK114.out 1) | ((with_reducible refine gate_callee (f := 39) rfl ?_); refine goesL_ (some 20) rfl rfl Tryd.func39 (by kernel_rfl) rfl #[] rfl (by (try simp only [List.map_toArray, List.map_cons, List.map_nil]); first | done | rfl | (simp only [List.length_drop, List.length_take]; rfl)) ?_; (with_reducible refine (secateurlaw04_live.calls  true _ ?side1 A8.out).mono ?_); (case side1 => exact MaxL.below HGMaxL.out (by repeat (first | (with_reducible first | exact HB.out | apply below_alloc | apply pw_below_drewN | apply below_drew1 | refine below_set ?_ GE108.out | refine below_set ?_ GE114.out) | exact HB.out))); rintro e w23 ⟨rfl, hb⟩; refine ⟨_, rfl, ?_⟩; have n0_ := Aside0.mk (Kd.R_below (by (with_reducible repeat (first | apply Kd.R_alloc | apply Kd.R_drewN | apply Kd.R_drew)); exact (Kd.R_mono (Kd.R_far (p := ⟨gb114, 1, none⟩) (Kd.R_far (p := ⟨gb114, 0, none⟩) (Kd.R_types HO105.out BK114.out (by decide)) (fun _ hk => hk.2) (.int .i64 t112)) (fun _ hk => hk.2) (.int .i64 t113)) (fun _ h_ => h_.1))) hb); have n1_ := Aside0.mk (Kd.R_below (by (with_reducible repeat (first | apply Kd.R_alloc | apply Kd.R_drewN | apply Kd.R_drew)); exact (Kd.R_mono (Kd.R_far (p := ⟨gb114, 1, none⟩) (Kd.R_far (p := ⟨gb114, 0, none⟩) (Kd.R_types HO111.out BK114.out (by decide)) (fun _ hk => hk.2) (.int .i64 t112)) (fun _ hk => hk.2) (.int .i64 t113)) (fun _ h_ => h_.1))) hb); have n2_ := Aside0.mk (blk_below (g := gb108) (o := .cells #[.int .i64 t106, .int .i64 t107] 31 (0, 0)) (by (with_reducible repeat (first | refine blk_drewN ?_ _ | refine blk_drew ?_ | refine blk_alloc ?_ _)); refine blk_far ?_ NB108_114.out _; (with_reducible repeat (first | refine blk_drewN ?_ _ | refine blk_drew ?_ | refine blk_alloc ?_ _)); refine blk_far ?_ NB108_114.out _; (with_reducible repeat (first | refine blk_drewN ?_ _ | refine blk_drew ?_ | refine blk_alloc ?_ _)); exact BK108.out) hb); have n3_ := Aside0.mk (blk_below (g := gb114) (o := .cells #[.int .i64 t112, .int .i64 t113] 31 (0, 0)) (by (with_reducible repeat (first | refine blk_drewN ?_ _ | refine blk_drew ?_ | refine blk_alloc ?_ _)); refine blk_put (cs := #[.int .i64 t112, .int .i64 0]) ?_ 1 _ rfl; (with_reducible repeat (first | refine blk_drewN ?_ _ | refine blk_drew ?_ | refine blk_alloc ?_ _)); refine blk_put (cs := #[.int .i64 0, .int .i64 0]) ?_ 0 _ rfl; (with_reducible repeat (first | refine blk_drewN ?_ _ | refine blk_drew ?_ | refine blk_alloc ?_ _)); exact BK114.out) hb); have n4_ := Aside0.mk (below_step (by repeat (first | (with_reducible first | exact HB.out | apply below_alloc | apply pw_below_drewN | apply below_drew1 | refine below_set ?_ GE108.out | refine below_set ?_ GE114.out) | exact HB.out)) hb); clear HO105; clear HO111; clear BK108; clear BK114; clear HB; have HO105 := n0_; have HO111 := n1_; have BK108 := n2_; have BK114 := n3_; have HB := n4_; clear n0_ n1_ n2_ n3_ n4_; (try clear hb); (try clear hb2); (try clear hk); (try clear hi); have hcz24_0 : w23.cell? ⟨gb108, 0, none⟩ = some (.int .i64 t106) := (blk_cell BK108.out 0).trans rfl; have hcz24_1 : w23.cell? ⟨gb108, 1, none⟩ = some (.int .i64 t107) := (blk_cell BK108.out 1).trans rfl; have hfz24_0 := blk_frozen BK108.out 0; have hfz24_1 := blk_frozen BK108.out 1; have hcz25_0 : w23.cell? ⟨gb114, 0, none⟩ = some (.int .i64 t112) := (blk_cell BK114.out 0).trans rfl; have hcz25_1 : w23.cell? ⟨gb114, 1, none⟩ = some (.int .i64 t113) := (blk_cell BK114.out 1).trans rfl; have hfz25_0 := blk_frozen BK114.out 0; have hfz25_1 := blk_frozen BK114.out 1; obtain ⟨Ao26, co26, eo26⟩ := Kd.R_slice HO105.out; subst eo26; obtain ⟨Ao27, co27, eo27⟩ := Kd.R_slice HO111.out; subst eo27) | (go_at_call 42; (with_reducible refine (secateurref01_SameTexts.calls _ _ t103 _ _ t109 true _ ?side1 ?side2 ?side3 ?side4 A11.out).mono ?_); (case side1 => repeat (first | exact (Kd.R_reads' HO105.out).2.2 | (with_reducible refine Kd.C_alloc ?_ _) | (with_reducible refine Kd.C_drewN ?_ _) | (with_reducible refine Kd.C_drew ?_))); (case side2 => exact (Kd.R_reads' HO105.out).2.1); (case side3 => repeat (first | exact (Kd.R_reads' HO111.out).2.2 | (with_reducible refine Kd.C_alloc ?_ _) | (with_reducible refine Kd.C_drewN ?_ _) | (with_reducible refine Kd.C_drew ?_))); (case side4 => exact (Kd.R_reads' HO111.out).2.1); rintro e w' ⟨rfl, ⟨nd, rfl⟩⟩) | (go_at_call 43; (with_reducible refine (word_Fields.calls a0 t117 _ ?side1 A13.out).mono ?_); (case side1 => exact MaxL.below HGMaxL.out (by repeat (first | (with_reducible first | exact HB.out | apply below_alloc | apply pw_below_drewN | apply below_drew1 | refine below_set ?_ GE108.out | refine below_set ?_ GE114.out) | exact HB.out))); rintro e w28 ⟨v118, rfl, ho0, hb⟩; have n0_ := Aside0.mk (Kd.R_elder' (by (with_reducible repeat (first | apply Kd.R_alloc | apply Kd.R_drewN | apply Kd.R_drew)); exact HO105.out) (Kd.R_base ho0) hb); have n1_ := Aside0.mk (Kd.R_elder' (by (with_reducible repeat (first | apply Kd.R_alloc | apply Kd.R_drewN | apply Kd.R_drew)); exact HO111.out) (Kd.R_base ho0) hb); have n2_ := Aside0.mk (Kd.R_lower (Kd.R_new' (Kd.R_new' ho0 (Kd.R_lt (by (with_reducible repeat (first | apply Kd.R_alloc | apply Kd.R_drewN | apply Kd.R_drew)); exact HO105.out))) (Kd.R_lt (by (with_reducible repeat (first | apply Kd.R_alloc | apply Kd.R_drewN | apply Kd.R_drew)); exact HO111.out))) (below_size (by repeat (first | (with_reducible first | exact HB.out | apply below_alloc | apply pw_below_drewN | apply below_drew1 | refine below_set ?_ GE108.out | refine below_set ?_ GE114.out) | exact HB.out)))); have n3_ := Aside0.mk (blk_below (g := gb108) (o := .cells #[.int .i64 t106, .int .i64 t107] 31 (0, 0)) (by (with_reducible repeat (first | refine blk_drewN ?_ _ | refine blk_drew ?_ | refine blk_alloc ?_ _)); exact BK108.out) hb); have n4_ := Aside0.mk (blk_below (g := gb114) (o := .cells #[.int .i64 t112, .int .i64 t113] 31 (0, 0)) (by (with_reducible repeat (first | refine blk_drewN ?_ _ | refine blk_drew ?_ | refine blk_alloc ?_ _)); exact BK114.out) hb); have n5_ := Aside0.mk (below_step (by repeat (first | (with_reducible first | exact HB.out | apply below_alloc | apply pw_below_drewN | apply below_drew1 | refine below_set ?_ GE108.out | refine below_set ?_ GE114.out) | exact HB.out)) hb); clear HO105; clear HO111; clear BK108; clear BK114; clear HB; have HO105 := n0_; have HO111 := n1_; have HO119 := n2_; have BK108 := n3_; have BK114 := n4_; have HB := n5_; clear n0_ n1_ n2_ n3_ n4_ n5_; (try clear hb); (try clear hb2); (try clear hk); (try clear hi); (try clear ho0)) | (go_at_call 44; (with_reducible refine (secateurref04_Fields.calls a0 t120 _ A14.out).mono ?_); rintro e w29 ⟨v121, rfl, ho0, hb⟩; have n0_ := Aside0.mk (Kd.R_elder' (by (with_reducible repeat (first | apply Kd.R_alloc | apply Kd.R_drewN | apply Kd.R_drew)); exact HO105.out) (Kd.R_base ho0) hb); have n1_ := Aside0.mk (Kd.R_elder' (by (with_reducible repeat (first | apply Kd.R_alloc | apply Kd.R_drewN | apply Kd.R_drew)); exact HO111.out) (Kd.R_base ho0) hb); have n2_ := Aside0.mk (Kd.R_elder' (by (with_reducible repeat (first | apply Kd.R_alloc | apply Kd.R_drewN | apply Kd.R_drew)); exact HO119.out) (Kd.R_base ho0) hb); have n3_ := Aside0.mk (Kd.R_lower (Kd.R_new' (Kd.R_new' (Kd.R_new' ho0 (Kd.R_lt (by (with_reducible repeat (first | apply Kd.R_alloc | apply Kd.R_drewN | apply Kd.R_drew)); exact HO105.out))) (Kd.R_lt (by (with_reducible repeat (first | apply Kd.R_alloc | apply Kd.R_drewN | apply Kd.R_drew)); exact HO111.out))) (Kd.R_lt (by (with_reducible repeat (first | apply Kd.R_alloc | apply Kd.R_drewN | apply Kd.R_drew)); exact HO119.out))) (below_size (by repeat (first | (with_reducible first | exact HB.out | apply below_alloc | apply pw_below_drewN | apply below_drew1 | refine below_set ?_ GE108.out | refine below_set ?_ GE114.out) | exact HB.out)))); have n4_ := Aside0.mk (blk_below (g := gb108) (o := .cells #[.int .i64 t106, .int .i64 t107] 31 (0, 0)) (by (with_reducible repeat (first | refine blk_drewN ?_ _ | refine blk_drew ?_ | refine blk_alloc ?_ _)); exact BK108.out) hb); have n5_ := Aside0.mk (blk_below (g := gb114) (o := .cells #[.int .i64 t112, .int .i64 t113] 31 (0, 0)) (by (with_reducible repeat (first | refine blk_drewN ?_ _ | refine blk_drew ?_ | refine blk_alloc ?_ _)); exact BK114.out) hb); have n6_ := Aside0.mk (below_step (by repeat (first | (with_reducible first | exact HB.out | apply below_alloc | apply pw_below_drewN | apply below_drew1 | refine below_set ?_ GE108.out | refine below_set ?_ GE114.out) | exact HB.out)) hb); clear HO105; clear HO111; clear HO119; clear BK108; clear BK114; clear HB; have HO105 := n0_; have HO111 := n1_; have HO119 := n2_; have HO122 := n3_; have BK108 := n4_; have BK114 := n5_; have HB := n6_; clear n0_ n1_ n2_ n3_ n4_ n5_ n6_; (try clear hb); (try clear hb2); (try clear hk); (try clear hi); (try clear ho0); obtain ⟨Ao30, co30, eo30⟩ := Kd.R_slice HO119.out; subst eo30; obtain ⟨Ao31, co31, eo31⟩ := Kd.R_slice HO122.out; subst eo31) | (go_at_call 42; (with_reducible refine (secateurref01_SameTexts.calls _ _ t117 _ _ t120 t123 _ ?side1 ?side2 ?side3 ?side4 A15.out).mono ?_); (case side1 => repeat (first | exact (Kd.R_reads' HO119.out).2.2 | (with_reducible refine Kd.C_alloc ?_ _) | (with_reducible refine Kd.C_drewN ?_ _) | (with_reducible refine Kd.C_drew ?_))); (case side2 => exact (Kd.R_reads' HO119.out).2.1); (case side3 => repeat (first | exact (Kd.R_reads' HO122.out).2.2 | (with_reducible refine Kd.C_alloc ?_ _) | (with_reducible refine Kd.C_drewN ?_ _) | (with_reducible refine Kd.C_drew ?_))); (case side4 => exact (Kd.R_reads' HO122.out).2.1); rintro e w' ⟨rfl, ⟨nd, rfl⟩⟩))
          go_ret
          exact ⟨by first | rfl | (simp [errW_none, errW_some] <;> rfl) | (simp [*, errW_none, errW_some] <;> rfl), by repeat (first | (with_reducible first | exact HB.out | apply below_alloc | apply pw_below_drewN | apply below_drew1 | refine below_set ?_ GE108.out | refine below_set ?_ GE114.out) | exact HB.out)⟩
        · replace c12 := Bool.eq_false_iff.mpr c12
          subst c12
          have H1 : (some false) = some r := by rw [if_neg (show ¬ (false = true) by decide)] at H; exact H
          clear H
          have H := H1
          clear H1
          obtain rfl := Option.some.inj H
          go_enter Tryd.func9, Tryd.ntmps9
          go_wp2_with (first | ((with_reducible refine gate_callee (f := 38) rfl ?_); refine goesL_ (some 8) rfl rfl Tryd.func38 (by kernel_rfl) rfl #[.string a0] rfl (by (try simp only [List.map_toArray, List.map_cons, List.map_nil]); first | done | rfl | (simp only [List.length_drop, List.length_take]; rfl)) ?_; (with_reducible refine (secateurlaw04_great.calls a0 false _ A2.out).mono ?_); rintro e w' ⟨rfl, ⟨nd, rfl⟩⟩; refine ⟨_, rfl, ?_⟩) | ((with_reducible refine gate_callee (f := 40) rfl ?_); refine goesL_ (some 12) rfl rfl Tryd.func40 (by kernel_rfl) rfl #[.string a0] rfl (by (try simp only [List.map_toArray, List.map_cons, List.map_nil]); first | done | rfl | (simp only [List.length_drop, List.length_take]; rfl)) ?_; (with_reducible refine (word_Lines.calls a0 t103 t106 t107 _ ?side1 A6.out).mono ?_); (case side1 => exact MaxL.below HGMaxL.out (by repeat (first | (with_reducible first | exact HB.out | apply below_alloc | apply pw_below_drewN | apply below_drew1) | exact HB.out))); rintro e w32 ⟨v104, rfl, ho0, hb⟩; refine ⟨_, rfl, ?_⟩; have n0_ := Aside0.mk (Kd.R_lower ho0 (below_size (by repeat (first | (with_reducible first | exact HB.out | apply below_alloc | apply pw_below_drewN | apply below_drew1) | exact HB.out)))); have n1_ := Aside0.mk (below_step (by repeat (first | (with_reducible first | exact HB.out | apply below_alloc | apply pw_below_drewN | apply below_drew1) | exact HB.out)) hb); clear HB; have HO105 := n0_; have HB := n1_; clear n0_ n1_; (try clear hb); (try clear hb2); (try clear hk); (try clear hi); (try clear ho0)) | ((with_reducible refine gate_dst (N := 4) rfl ?_); refine box_event ?hg (N := 4) ?hd (cs := #[.int .i64 0, .int .i64 0]) (t := 31) ?hr ?_; (case hd => rfl); (case hg => rfl); (case hr => first | (go_simp; done) | (go_simp; rfl)); intro gb108 hg w33 hbox hb; have n0_ := Aside0.mk (Kd.R_below (by (with_reducible repeat (first | apply Kd.R_alloc | apply Kd.R_drewN | apply Kd.R_drew)); exact HO105.out) hb); have n1_ := Aside0.mk (below_step (by repeat (first | (with_reducible first | exact HB.out | apply below_alloc | apply pw_below_drewN | apply below_drew1) | exact HB.out)) hb); have n2_ := Aside0.mk (hbox); have n3_ := Aside0.mk ((by rw [hg]; exact (below_size (by repeat (first | (with_reducible first | exact HB.out | apply below_alloc | apply pw_below_drewN | apply below_drew1) | exact HB.out))) : w.heap.size ≤ gb108)); have n4_ := Aside0.mk ((by rw [hg]; exact (below_size (by repeat (first | (with_reducible first | exact HB.out | apply below_alloc | apply pw_below_drewN | apply below_drew1) | exact HB.out))) : w.heap.size ≤ gb108)); clear HO105; clear HB; have HO105 := n0_; have HB := n1_; have BK108 := n2_; have GW108 := n3_; have GE108 := n4_; clear n0_ n1_ n2_ n3_ n4_; clear hb hbox hg; have hcz34_0 : w33.cell? ⟨gb108, 0, none⟩ = some (.int .i64 0) := (blk_cell BK108.out 0).trans rfl; have hcz34_1 : w33.cell? ⟨gb108, 1, none⟩ = some (.int .i64 0) := (blk_cell BK108.out 1).trans rfl; have hfz34_0 := blk_frozen BK108.out 0; have hfz34_1 := blk_frozen BK108.out 1) | ((with_reducible refine gate_callee (f := 41) rfl ?_); refine goesL_ (some 17) rfl rfl Tryd.func41 (by kernel_rfl) rfl #[.string a0] rfl (by (try simp only [List.map_toArray, List.map_cons, List.map_nil]); first | done | rfl | (simp only [List.length_drop, List.length_take]; rfl)) ?_; (with_reducible refine (secateurref04_Lines.calls a0 t109 t112 t113 _ A7.out).mono ?_); rintro e w35 ⟨v110, rfl, ho0, hb⟩; refine ⟨_, rfl, ?_⟩; have n0_ := Aside0.mk (Kd.R_elder' (by (with_reducible repeat (first | apply Kd.R_alloc | apply Kd.R_drewN | apply Kd.R_drew)); exact (Kd.R_mono (Kd.R_far (p := ⟨gb108, 1, none⟩) (Kd.R_far (p := ⟨gb108, 0, none⟩) (Kd.R_types HO105.out BK108.out (by decide)) (fun _ hk => hk.2) (.int .i64 t106)) (fun _ hk => hk.2) (.int .i64 t107)) (fun _ h_ => h_.1))) (Kd.R_base ho0) hb); have n1_ := Aside0.mk (Kd.R_lower (Kd.R_new' ho0 (Kd.R_lt (by (with_reducible repeat (first | apply Kd.R_alloc | apply Kd.R_drewN | apply Kd.R_drew)); exact (Kd.R_mono (Kd.R_far (p := ⟨gb108, 1, none⟩) (Kd.R_far (p := ⟨gb108, 0, none⟩) (Kd.R_types HO105.out BK108.out (by decide)) (fun _ hk => hk.2) (.int .i64 t106)) (fun _ hk => hk.2) (.int .i64 t107)) (fun _ h_ => h_.1))))) (below_size (by repeat (first | (with_reducible first | exact HB.out | apply below_alloc | apply pw_below_drewN | apply below_drew1 | refine below_set ?_ GE108.out) | exact HB.out)))); have n2_ := Aside0.mk (blk_below (g := gb108) (o := .cells #[.int .i64 t106, .int .i64 t107] 31 (0, 0)) (by (with_reducible repeat (first | refine blk_drewN ?_ _ | refine blk_drew ?_ | refine blk_alloc ?_ _)); refine blk_put (cs := #[.int .i64 t106, .int .i64 0]) ?_ 1 _ rfl; (with_reducible repeat (first | refine blk_drewN ?_ _ | refine blk_drew ?_ | refine blk_alloc ?_ _)); refine blk_put (cs := #[.int .i64 0, .int .i64 0]) ?_ 0 _ rfl; (with_reducible repeat (first | refine blk_drewN ?_ _ | refine blk_drew ?_ | refine blk_alloc ?_ _)); exact BK108.out) hb); have n3_ := Aside0.mk (below_step (by repeat (first | (with_reducible first | exact HB.out | apply below_alloc | apply pw_below_drewN | apply below_drew1 | refine below_set ?_ GE108.out) | exact HB.out)) hb); clear HO105; clear BK108; clear HB; have HO105 := n0_; have HO111 := n1_; have BK108 := n2_; have HB := n3_; clear n0_ n1_ n2_ n3_; (try clear hb); (try clear hb2); (try clear hk); (try clear hi); (try clear ho0)) | ((with_reducible refine gate_dst (N := 6) rfl ?_); refine box_event ?hg (N := 6) ?hd (cs := #[.int .i64 0, .int .i64 0]) (t := 31) ?hr ?_; (case hd => rfl); (case hg => rfl); (case hr => first | (go_simp; done) | (go_simp; rfl)); intro gb114 hg w36 hbox hb; have n0_ := Aside0.mk (Kd.R_below (by (with_reducible repeat (first | apply Kd.R_alloc | apply Kd.R_drewN | apply Kd.R_drew)); exact HO105.out) hb); have n1_ := Aside0.mk (Kd.R_below (by (with_reducible repeat (first | apply Kd.R_alloc | apply Kd.R_drewN | apply Kd.R_drew)); exact HO111.out) hb); have n2_ := Aside0.mk (blk_below (g := gb108) (o := .cells #[.int .i64 t106, .int .i64 t107] 31 (0, 0)) (by (with_reducible repeat (first | refine blk_drewN ?_ _ | refine blk_drew ?_ | refine blk_alloc ?_ _)); exact BK108.out) hb); have n3_ := Aside0.mk (below_step (by repeat (first | (with_reducible first | exact HB.out | apply below_alloc | apply pw_below_drewN | apply below_drew1 | refine below_set ?_ GE108.out) | exact HB.out)) hb); have n4_ := Aside0.mk (hbox); have n5_ := Aside0.mk ((by rw [hg]; exact (below_size (by repeat (first | (with_reducible first | exact HB.out | apply below_alloc | apply pw_below_drewN | apply below_drew1 | refine below_set ?_ GE108.out) | exact HB.out))) : w.heap.size ≤ gb114)); have n6_ := Aside0.mk ((by rw [hg]; exact (below_size (by repeat (first | (with_reducible first | exact HB.out | apply below_alloc | apply pw_below_drewN | apply below_drew1 | refine below_set ?_ GE108.out) | exact HB.out))) : w.heap.size ≤ gb114)); have n7_ := Aside0.mk ((by rw [hg]; exact Nat.ne_of_lt (blk_lt (g := gb108) (o := .cells #[.int .i64 t106, .int .i64 t107] 31 (0, 0)) (by (with_reducible repeat (first | refine blk_drewN ?_ _ | refine blk_drew ?_ | refine blk_alloc ?_ _)); exact BK108.out)) : gb108 ≠ gb114)); have n8_ := Aside0.mk ((by rw [hg]; exact Nat.ne_of_gt (blk_lt (g := gb108) (o := .cells #[.int .i64 t106, .int .i64 t107] 31 (0, 0)) (by (with_reducible repeat (first | refine blk_drewN ?_ _ | refine blk_drew ?_ | refine blk_alloc ?_ _)); exact BK108.out)) : gb114 ≠ gb108)); clear HO105; clear HO111; clear BK108; clear HB; have HO105 := n0_; have HO111 := n1_; have BK108 := n2_; have HB := n3_; have BK114 := n4_; have GW114 := n5_; have GE114 := n6_; have NB108_114 := n7_; have NB114_108 := n8_; clear n0_ n1_ n2_ n3_ n4_ n5_ n6_ n7_ n8_; clear hb hbox hg; have hnb37 := NB114_108.out; have hnc37 := NB108_114.out; have hcz38_0 : w36.cell? ⟨gb114, 0, none⟩ = some (.int .i64 0) := (blk_cell BK114.out 0).trans rfl; have hcz38_1 : w36.cell? ⟨gb114, 1, none⟩ = some (.int .i64 0) := (blk_cell BK114.out 1).trans rfl; have hfz38_0 := blk_frozen BK114.out 0; have hfz38_1 := blk_frozen BK114.out 1) | ((with_reducible refine gate_callee (f := 39) rfl ?_); refine goesL_ (some 20) rfl rfl Tryd.func39 (by kernel_rfl) rfl #[] rfl (by (try simp only [List.map_toArray, List.map_cons, List.map_nil]); first | done | rfl | (simp only [List.length_drop, List.length_take]; rfl)) ?_; (with_reducible refine (secateurlaw04_live.calls  true _ ?side1 A8.out).mono ?_); (case side1 => exact MaxL.below HGMaxL.out (by repeat (first | (with_reducible first | exact HB.out | apply below_alloc | apply pw_below_drewN | apply below_drew1 | refine below_set ?_ GE108.out | refine below_set ?_ GE114.out) | exact HB.out))); rintro e w39 ⟨rfl, hb⟩; refine ⟨_, rfl, ?_⟩; have n0_ := Aside0.mk (Kd.R_below (by (with_reducible repeat (first | apply Kd.R_alloc | apply Kd.R_drewN | apply Kd.R_drew)); exact (Kd.R_mono (Kd.R_far (p := ⟨gb114, 1, none⟩) (Kd.R_far (p := ⟨gb114, 0, none⟩) (Kd.R_types HO105.out BK114.out (by decide)) (fun _ hk => hk.2) (.int .i64 t112)) (fun _ hk => hk.2) (.int .i64 t113)) (fun _ h_ => h_.1))) hb); have n1_ := Aside0.mk (Kd.R_below (by (with_reducible repeat (first | apply Kd.R_alloc | apply Kd.R_drewN | apply Kd.R_drew)); exact (Kd.R_mono (Kd.R_far (p := ⟨gb114, 1, none⟩) (Kd.R_far (p := ⟨gb114, 0, none⟩) (Kd.R_types HO111.out BK114.out (by decide)) (fun _ hk => hk.2) (.int .i64 t112)) (fun _ hk => hk.2) (.int .i64 t113)) (fun _ h_ => h_.1))) hb); have n2_ := Aside0.mk (blk_below (g := gb108) (o := .cells #[.int .i64 t106, .int .i64 t107] 31 (0, 0)) (by (with_reducible repeat (first | refine blk_drewN ?_ _ | refine blk_drew ?_ | refine blk_alloc ?_ _)); refine blk_far ?_ NB108_114.out _; (with_reducible repeat (first | refine blk_drewN ?_ _ | refine blk_drew ?_ | refine blk_alloc ?_ _)); refine blk_far ?_ NB108_114.out _; (with_reducible repeat (first | refine blk_drewN ?_ _ | refine blk_drew ?_ | refine blk_alloc ?_ _)); exact BK108.out) hb); have n3_ := Aside0.mk (blk_below (g := gb114) (o := .cells #[.int .i64 t112, .int .i64 t113] 31 (0, 0)) (by (with_reducible repeat (first | refine blk_drewN ?_ _ | refine blk_drew ?_ | refine blk_alloc ?_ _)); refine blk_put (cs := #[.int .i64 t112, .int .i64 0]) ?_ 1 _ rfl; (with_reducible repeat (first | refine blk_drewN ?_ _ | refine blk_drew ?_ | refine blk_alloc ?_ _)); refine blk_put (cs := #[.int .i64 0, .int .i64 0]) ?_ 0 _ rfl; (with_reducible repeat (first | refine blk_drewN ?_ _ | refine blk_drew ?_ | refine blk_alloc ?_ _)); exact BK114.out) hb); have n4_ := Aside0.mk (below_step (by repeat (first | (with_reducible first | exact HB.out | apply below_alloc | apply pw_below_drewN | apply below_drew1 | refine below_set ?_ GE108.out | refine below_set ?_ GE114.out) | exact HB.out)) hb); clear HO105; clear HO111; clear BK108; clear BK114; clear HB; have HO105 := n0_; have HO111 := n1_; have BK108 := n2_; have BK114 := n3_; have HB := n4_; clear n0_ n1_ n2_ n3_ n4_; (try clear hb); (try clear hb2); (try clear hk); (try clear hi); have hcz40_0 : w39.cell? ⟨gb108, 0, none⟩ = some (.int .i64 t106) := (blk_cell BK108.out 0).trans rfl; have hcz40_1 : w39.cell? ⟨gb108, 1, none⟩ = some (.int .i64 t107) := (blk_cell BK108.out 1).trans rfl; have hfz40_0 := blk_frozen BK108.out 0; have hfz40_1 := blk_frozen BK108.out 1; have hcz41_0 : w39.cell? ⟨gb114, 0, none⟩ = some (.int .i64 t112) := (blk_cell BK114.out 0).trans rfl; have hcz41_1 : w39.cell? ⟨gb114, 1, none⟩ = some (.int .i64 t113) := (blk_cell BK114.out 1).trans rfl; have hfz41_0 := blk_frozen BK114.out 0; have hfz41_1 := blk_frozen BK114.out 1; obtain ⟨Ao42, co42, eo42⟩ := Kd.R_slice HO105.out; subst eo42; obtain ⟨Ao43, co43, eo43⟩ := Kd.R_slice HO111.out; subst eo43) | (go_at_call 42; (with_reducible refine (secateurref01_SameTexts.calls _ _ t103 _ _ t109 false _ ?side1 ?side2 ?side3 ?side4 A11.out).mono ?_); (case side1 => repeat (first | exact (Kd.R_reads' HO105.out).2.2 | (with_reducible refine Kd.C_alloc ?_ _) | (with_reducible refine Kd.C_drewN ?_ _) | (with_reducible refine Kd.C_drew ?_))); (case side2 => exact (Kd.R_reads' HO105.out).2.1); (case side3 => repeat (first | exact (Kd.R_reads' HO111.out).2.2 | (with_reducible refine Kd.C_alloc ?_ _) | (with_reducible refine Kd.C_drewN ?_ _) | (with_reducible refine Kd.C_drew ?_))); (case side4 => exact (Kd.R_reads' HO111.out).2.1); rintro e w' ⟨rfl, ⟨nd, rfl⟩⟩))
          go_ret
          exact ⟨by first | rfl | (simp [errW_none, errW_some] <;> rfl) | (simp [*, errW_none, errW_some] <;> rfl), by repeat (first | (with_reducible first | exact HB.out | apply below_alloc | apply pw_below_drewN | apply below_drew1 | refine below_set ?_ GE108.out | refine below_set ?_ GE114.out) | exact HB.out)⟩
      · rw [if_neg c10] at H
        have c10b0 : (t106 == t112 && (t107 == t113)) = false := by simpa using c10
        (try (have c10b1 : decide (t106 = t112 && (t107 == t113)) = false := by simpa using c10))
        (try (have c10b2 : (t106 == t112 && (t107 == t113)) = false := by simpa using c10))
        (try (have c10b3 : ¬ (t106 = t112 && (t107 == t113)) := by simpa using c10))
        clear c10
        obtain rfl := Option.some.inj H
        go_enter Tryd.func9, Tryd.ntmps9
        go_wp2_with (first | ((with_reducible refine gate_callee (f := 38) rfl ?_); refine goesL_ (some 8) rfl rfl Tryd.func38 (by kernel_rfl) rfl #[.string a0] rfl (by (try simp only [List.map_toArray, List.map_cons, List.map_nil]); first | done | rfl | (simp only [List.length_drop, List.length_take]; rfl)) ?_; (with_reducible refine (secateurlaw04_great.calls a0 false _ A2.out).mono ?_); rintro e w' ⟨rfl, ⟨nd, rfl⟩⟩; refine ⟨_, rfl, ?_⟩) | ((with_reducible refine gate_callee (f := 40) rfl ?_); refine goesL_ (some 12) rfl rfl Tryd.func40 (by kernel_rfl) rfl #[.string a0] rfl (by (try simp only [List.map_toArray, List.map_cons, List.map_nil]); first | done | rfl | (simp only [List.length_drop, List.length_take]; rfl)) ?_; (with_reducible refine (word_Lines.calls a0 t103 t106 t107 _ ?side1 A6.out).mono ?_); (case side1 => exact MaxL.below HGMaxL.out (by repeat (first | (with_reducible first | exact HB.out | apply below_alloc | apply pw_below_drewN | apply below_drew1) | exact HB.out))); rintro e w44 ⟨v104, rfl, ho0, hb⟩; refine ⟨_, rfl, ?_⟩; have n0_ := Aside0.mk (Kd.R_lower ho0 (below_size (by repeat (first | (with_reducible first | exact HB.out | apply below_alloc | apply pw_below_drewN | apply below_drew1) | exact HB.out)))); have n1_ := Aside0.mk (below_step (by repeat (first | (with_reducible first | exact HB.out | apply below_alloc | apply pw_below_drewN | apply below_drew1) | exact HB.out)) hb); clear HB; have HO105 := n0_; have HB := n1_; clear n0_ n1_; (try clear hb); (try clear hb2); (try clear hk); (try clear hi); (try clear ho0)) | ((with_reducible refine gate_dst (N := 4) rfl ?_); refine box_event ?hg (N := 4) ?hd (cs := #[.int .i64 0, .int .i64 0]) (t := 31) ?hr ?_; (case hd => rfl); (case hg => rfl); (case hr => first | (go_simp; done) | (go_simp; rfl)); intro gb108 hg w45 hbox hb; have n0_ := Aside0.mk (Kd.R_below (by (with_reducible repeat (first | apply Kd.R_alloc | apply Kd.R_drewN | apply Kd.R_drew)); exact HO105.out) hb); have n1_ := Aside0.mk (below_step (by repeat (first | (with_reducible first | exact HB.out | apply below_alloc | apply pw_below_drewN | apply below_drew1) | exact HB.out)) hb); have n2_ := Aside0.mk (hbox); have n3_ := Aside0.mk ((by rw [hg]; exact (below_size (by repeat (first | (with_reducible first | exact HB.out | apply below_alloc | apply pw_below_drewN | apply below_drew1) | exact HB.out))) : w.heap.size ≤ gb108)); have n4_ := Aside0.mk ((by rw [hg]; exact (below_size (by repeat (first | (with_reducible first | exact HB.out | apply below_alloc | apply pw_below_drewN | apply below_drew1) | exact HB.out))) : w.heap.size ≤ gb108)); clear HO105; clear HB; have HO105 := n0_; have HB := n1_; have BK108 := n2_; have GW108 := n3_; have GE108 := n4_; clear n0_ n1_ n2_ n3_ n4_; clear hb hbox hg; have hcz46_0 : w45.cell? ⟨gb108, 0, none⟩ = some (.int .i64 0) := (blk_cell BK108.out 0).trans rfl; have hcz46_1 : w45.cell? ⟨gb108, 1, none⟩ = some (.int .i64 0) := (blk_cell BK108.out 1).trans rfl; have hfz46_0 := blk_frozen BK108.out 0; have hfz46_1 := blk_frozen BK108.out 1) | ((with_reducible refine gate_callee (f := 41) rfl ?_); refine goesL_ (some 17) rfl rfl Tryd.func41 (by kernel_rfl) rfl #[.string a0] rfl (by (try simp only [List.map_toArray, List.map_cons, List.map_nil]); first | done | rfl | (simp only [List.length_drop, List.length_take]; rfl)) ?_; (with_reducible refine (secateurref04_Lines.calls a0 t109 t112 t113 _ A7.out).mono ?_); rintro e w47 ⟨v110, rfl, ho0, hb⟩; refine ⟨_, rfl, ?_⟩; have n0_ := Aside0.mk (Kd.R_elder' (by (with_reducible repeat (first | apply Kd.R_alloc | apply Kd.R_drewN | apply Kd.R_drew)); exact (Kd.R_mono (Kd.R_far (p := ⟨gb108, 1, none⟩) (Kd.R_far (p := ⟨gb108, 0, none⟩) (Kd.R_types HO105.out BK108.out (by decide)) (fun _ hk => hk.2) (.int .i64 t106)) (fun _ hk => hk.2) (.int .i64 t107)) (fun _ h_ => h_.1))) (Kd.R_base ho0) hb); have n1_ := Aside0.mk (Kd.R_lower (Kd.R_new' ho0 (Kd.R_lt (by (with_reducible repeat (first | apply Kd.R_alloc | apply Kd.R_drewN | apply Kd.R_drew)); exact (Kd.R_mono (Kd.R_far (p := ⟨gb108, 1, none⟩) (Kd.R_far (p := ⟨gb108, 0, none⟩) (Kd.R_types HO105.out BK108.out (by decide)) (fun _ hk => hk.2) (.int .i64 t106)) (fun _ hk => hk.2) (.int .i64 t107)) (fun _ h_ => h_.1))))) (below_size (by repeat (first | (with_reducible first | exact HB.out | apply below_alloc | apply pw_below_drewN | apply below_drew1 | refine below_set ?_ GE108.out) | exact HB.out)))); have n2_ := Aside0.mk (blk_below (g := gb108) (o := .cells #[.int .i64 t106, .int .i64 t107] 31 (0, 0)) (by (with_reducible repeat (first | refine blk_drewN ?_ _ | refine blk_drew ?_ | refine blk_alloc ?_ _)); refine blk_put (cs := #[.int .i64 t106, .int .i64 0]) ?_ 1 _ rfl; (with_reducible repeat (first | refine blk_drewN ?_ _ | refine blk_drew ?_ | refine blk_alloc ?_ _)); refine blk_put (cs := #[.int .i64 0, .int .i64 0]) ?_ 0 _ rfl; (with_reducible repeat (first | refine blk_drewN ?_ _ | refine blk_drew ?_ | refine blk_alloc ?_ _)); exact BK108.out) hb); have n3_ := Aside0.mk (below_step (by repeat (first | (with_reducible first | exact HB.out | apply below_alloc | apply pw_below_drewN | apply below_drew1 | refine below_set ?_ GE108.out) | exact HB.out)) hb); clear HO105; clear BK108; clear HB; have HO105 := n0_; have HO111 := n1_; have BK108 := n2_; have HB := n3_; clear n0_ n1_ n2_ n3_; (try clear hb); (try clear hb2); (try clear hk); (try clear hi); (try clear ho0)) | ((with_reducible refine gate_dst (N := 6) rfl ?_); refine box_event ?hg (N := 6) ?hd (cs := #[.int .i64 0, .int .i64 0]) (t := 31) ?hr ?_; (case hd => rfl); (case hg => rfl); (case hr => first | (go_simp; done) | (go_simp; rfl)); intro gb114 hg w48 hbox hb; have n0_ := Aside0.mk (Kd.R_below (by (with_reducible repeat (first | apply Kd.R_alloc | apply Kd.R_drewN | apply Kd.R_drew)); exact HO105.out) hb); have n1_ := Aside0.mk (Kd.R_below (by (with_reducible repeat (first | apply Kd.R_alloc | apply Kd.R_drewN | apply Kd.R_drew)); exact HO111.out) hb); have n2_ := Aside0.mk (blk_below (g := gb108) (o := .cells #[.int .i64 t106, .int .i64 t107] 31 (0, 0)) (by (with_reducible repeat (first | refine blk_drewN ?_ _ | refine blk_drew ?_ | refine blk_alloc ?_ _)); exact BK108.out) hb); have n3_ := Aside0.mk (below_step (by repeat (first | (with_reducible first | exact HB.out | apply below_alloc | apply pw_below_drewN | apply below_drew1 | refine below_set ?_ GE108.out) | exact HB.out)) hb); have n4_ := Aside0.mk (hbox); have n5_ := Aside0.mk ((by rw [hg]; exact (below_size (by repeat (first | (with_reducible first | exact HB.out | apply below_alloc | apply pw_below_drewN | apply below_drew1 | refine below_set ?_ GE108.out) | exact HB.out))) : w.heap.size ≤ gb114)); have n6_ := Aside0.mk ((by rw [hg]; exact (below_size (by repeat (first | (with_reducible first | exact HB.out | apply below_alloc | apply pw_below_drewN | apply below_drew1 | refine below_set ?_ GE108.out) | exact HB.out))) : w.heap.size ≤ gb114)); have n7_ := Aside0.mk ((by rw [hg]; exact Nat.ne_of_lt (blk_lt (g := gb108) (o := .cells #[.int .i64 t106, .int .i64 t107] 31 (0, 0)) (by (with_reducible repeat (first | refine blk_drewN ?_ _ | refine blk_drew ?_ | refine blk_alloc ?_ _)); exact BK108.out)) : gb108 ≠ gb114)); have n8_ := Aside0.mk ((by rw [hg]; exact Nat.ne_of_gt (blk_lt (g := gb108) (o := .cells #[.int .i64 t106, .int .i64 t107] 31 (0, 0)) (by (with_reducible repeat (first | refine blk_drewN ?_ _ | refine blk_drew ?_ | refine blk_alloc ?_ _)); exact BK108.out)) : gb114 ≠ gb108)); clear HO105; clear HO111; clear BK108; clear HB; have HO105 := n0_; have HO111 := n1_; have BK108 := n2_; have HB := n3_; have BK114 := n4_; have GW114 := n5_; have GE114 := n6_; have NB108_114 := n7_; have NB114_108 := n8_; clear n0_ n1_ n2_ n3_ n4_ n5_ n6_ n7_ n8_; clear hb hbox hg; have hnb49 := NB114_108.out; have hnc49 := NB108_114.out; have hcz50_0 : w48.cell? ⟨gb114, 0, none⟩ = some (.int .i64 0) := (blk_cell BK114.out 0).trans rfl; have hcz50_1 : w48.cell? ⟨gb114, 1, none⟩ = some (.int .i64 0) := (blk_cell BK114.out 1).trans rfl; have hfz50_0 := blk_frozen BK114.out 0; have hfz50_1 := blk_frozen BK114.out 1) | ((with_reducible refine gate_callee (f := 39) rfl ?_); refine goesL_ (some 20) rfl rfl Tryd.func39 (by kernel_rfl) rfl #[] rfl (by (try simp only [List.map_toArray, List.map_cons, List.map_nil]); first | done | rfl | (simp only [List.length_drop, List.length_take]; rfl)) ?_; (with_reducible refine (secateurlaw04_live.calls  true _ ?side1 A8.out).mono ?_); (case side1 => exact MaxL.below HGMaxL.out (by repeat (first | (with_reducible first | exact HB.out | apply below_alloc | apply pw_below_drewN | apply below_drew1 | refine below_set ?_ GE108.out | refine below_set ?_ GE114.out) | exact HB.out))); rintro e w51 ⟨rfl, hb⟩; refine ⟨_, rfl, ?_⟩; have n0_ := Aside0.mk (Kd.R_below (by (with_reducible repeat (first | apply Kd.R_alloc | apply Kd.R_drewN | apply Kd.R_drew)); exact (Kd.R_mono (Kd.R_far (p := ⟨gb114, 1, none⟩) (Kd.R_far (p := ⟨gb114, 0, none⟩) (Kd.R_types HO105.out BK114.out (by decide)) (fun _ hk => hk.2) (.int .i64 t112)) (fun _ hk => hk.2) (.int .i64 t113)) (fun _ h_ => h_.1))) hb); have n1_ := Aside0.mk (Kd.R_below (by (with_reducible repeat (first | apply Kd.R_alloc | apply Kd.R_drewN | apply Kd.R_drew)); exact (Kd.R_mono (Kd.R_far (p := ⟨gb114, 1, none⟩) (Kd.R_far (p := ⟨gb114, 0, none⟩) (Kd.R_types HO111.out BK114.out (by decide)) (fun _ hk => hk.2) (.int .i64 t112)) (fun _ hk => hk.2) (.int .i64 t113)) (fun _ h_ => h_.1))) hb); have n2_ := Aside0.mk (blk_below (g := gb108) (o := .cells #[.int .i64 t106, .int .i64 t107] 31 (0, 0)) (by (with_reducible repeat (first | refine blk_drewN ?_ _ | refine blk_drew ?_ | refine blk_alloc ?_ _)); refine blk_far ?_ NB108_114.out _; (with_reducible repeat (first | refine blk_drewN ?_ _ | refine blk_drew ?_ | refine blk_alloc ?_ _)); refine blk_far ?_ NB108_114.out _; (with_reducible repeat (first | refine blk_drewN ?_ _ | refine blk_drew ?_ | refine blk_alloc ?_ _)); exact BK108.out) hb); have n3_ := Aside0.mk (blk_below (g := gb114) (o := .cells #[.int .i64 t112, .int .i64 t113] 31 (0, 0)) (by (with_reducible repeat (first | refine blk_drewN ?_ _ | refine blk_drew ?_ | refine blk_alloc ?_ _)); refine blk_put (cs := #[.int .i64 t112, .int .i64 0]) ?_ 1 _ rfl; (with_reducible repeat (first | refine blk_drewN ?_ _ | refine blk_drew ?_ | refine blk_alloc ?_ _)); refine blk_put (cs := #[.int .i64 0, .int .i64 0]) ?_ 0 _ rfl; (with_reducible repeat (first | refine blk_drewN ?_ _ | refine blk_drew ?_ | refine blk_alloc ?_ _)); exact BK114.out) hb); have n4_ := Aside0.mk (below_step (by repeat (first | (with_reducible first | exact HB.out | apply below_alloc | apply pw_below_drewN | apply below_drew1 | refine below_set ?_ GE108.out | refine below_set ?_ GE114.out) | exact HB.out)) hb); clear HO105; clear HO111; clear BK108; clear BK114; clear HB; have HO105 := n0_; have HO111 := n1_; have BK108 := n2_; have BK114 := n3_; have HB := n4_; clear n0_ n1_ n2_ n3_ n4_; (try clear hb); (try clear hb2); (try clear hk); (try clear hi); have hcz52_0 : w51.cell? ⟨gb108, 0, none⟩ = some (.int .i64 t106) := (blk_cell BK108.out 0).trans rfl; have hcz52_1 : w51.cell? ⟨gb108, 1, none⟩ = some (.int .i64 t107) := (blk_cell BK108.out 1).trans rfl; have hfz52_0 := blk_frozen BK108.out 0; have hfz52_1 := blk_frozen BK108.out 1; have hcz53_0 : w51.cell? ⟨gb114, 0, none⟩ = some (.int .i64 t112) := (blk_cell BK114.out 0).trans rfl; have hcz53_1 : w51.cell? ⟨gb114, 1, none⟩ = some (.int .i64 t113) := (blk_cell BK114.out 1).trans rfl; have hfz53_0 := blk_frozen BK114.out 0; have hfz53_1 := blk_frozen BK114.out 1))
        go_ret
        exact ⟨by first | rfl | (simp [errW_none, errW_some] <;> rfl) | (simp [*, errW_none, errW_some] <;> rfl), by repeat (first | (with_reducible first | exact HB.out | apply below_alloc | apply pw_below_drewN | apply below_drew1 | refine below_set ?_ GE108.out | refine below_set ?_ GE114.out) | exact HB.out)⟩
    · replace c9 := Bool.eq_false_iff.mpr c9
      subst c9
      have H1 : (some false) = some r := by rw [if_neg (show ¬ (false = true) by decide)] at H; exact H
      clear H
      have H := H1
      clear H1
      obtain rfl := Option.some.inj H
      go_enter Tryd.func9, Tryd.ntmps9
      go_wp2_with (first | ((with_reducible refine gate_callee (f := 38) rfl ?_); refine goesL_ (some 8) rfl rfl Tryd.func38 (by kernel_rfl) rfl #[.string a0] rfl (by (try simp only [List.map_toArray, List.map_cons, List.map_nil]); first | done | rfl | (simp only [List.length_drop, List.length_take]; rfl)) ?_; (with_reducible refine (secateurlaw04_great.calls a0 false _ A2.out).mono ?_); rintro e w' ⟨rfl, ⟨nd, rfl⟩⟩; refine ⟨_, rfl, ?_⟩) | ((with_reducible refine gate_callee (f := 40) rfl ?_); refine goesL_ (some 12) rfl rfl Tryd.func40 (by kernel_rfl) rfl #[.string a0] rfl (by (try simp only [List.map_toArray, List.map_cons, List.map_nil]); first | done | rfl | (simp only [List.length_drop, List.length_take]; rfl)) ?_; (with_reducible refine (word_Lines.calls a0 t103 t106 t107 _ ?side1 A6.out).mono ?_); (case side1 => exact MaxL.below HGMaxL.out (by repeat (first | (with_reducible first | exact HB.out | apply below_alloc | apply pw_below_drewN | apply below_drew1) | exact HB.out))); rintro e w54 ⟨v104, rfl, ho0, hb⟩; refine ⟨_, rfl, ?_⟩; have n0_ := Aside0.mk (Kd.R_lower ho0 (below_size (by repeat (first | (with_reducible first | exact HB.out | apply below_alloc | apply pw_below_drewN | apply below_drew1) | exact HB.out)))); have n1_ := Aside0.mk (below_step (by repeat (first | (with_reducible first | exact HB.out | apply below_alloc | apply pw_below_drewN | apply below_drew1) | exact HB.out)) hb); clear HB; have HO105 := n0_; have HB := n1_; clear n0_ n1_; (try clear hb); (try clear hb2); (try clear hk); (try clear hi); (try clear ho0)) | ((with_reducible refine gate_dst (N := 4) rfl ?_); refine box_event ?hg (N := 4) ?hd (cs := #[.int .i64 0, .int .i64 0]) (t := 31) ?hr ?_; (case hd => rfl); (case hg => rfl); (case hr => first | (go_simp; done) | (go_simp; rfl)); intro gb108 hg w55 hbox hb; have n0_ := Aside0.mk (Kd.R_below (by (with_reducible repeat (first | apply Kd.R_alloc | apply Kd.R_drewN | apply Kd.R_drew)); exact HO105.out) hb); have n1_ := Aside0.mk (below_step (by repeat (first | (with_reducible first | exact HB.out | apply below_alloc | apply pw_below_drewN | apply below_drew1) | exact HB.out)) hb); have n2_ := Aside0.mk (hbox); have n3_ := Aside0.mk ((by rw [hg]; exact (below_size (by repeat (first | (with_reducible first | exact HB.out | apply below_alloc | apply pw_below_drewN | apply below_drew1) | exact HB.out))) : w.heap.size ≤ gb108)); have n4_ := Aside0.mk ((by rw [hg]; exact (below_size (by repeat (first | (with_reducible first | exact HB.out | apply below_alloc | apply pw_below_drewN | apply below_drew1) | exact HB.out))) : w.heap.size ≤ gb108)); clear HO105; clear HB; have HO105 := n0_; have HB := n1_; have BK108 := n2_; have GW108 := n3_; have GE108 := n4_; clear n0_ n1_ n2_ n3_ n4_; clear hb hbox hg; have hcz56_0 : w55.cell? ⟨gb108, 0, none⟩ = some (.int .i64 0) := (blk_cell BK108.out 0).trans rfl; have hcz56_1 : w55.cell? ⟨gb108, 1, none⟩ = some (.int .i64 0) := (blk_cell BK108.out 1).trans rfl; have hfz56_0 := blk_frozen BK108.out 0; have hfz56_1 := blk_frozen BK108.out 1) | ((with_reducible refine gate_callee (f := 41) rfl ?_); refine goesL_ (some 17) rfl rfl Tryd.func41 (by kernel_rfl) rfl #[.string a0] rfl (by (try simp only [List.map_toArray, List.map_cons, List.map_nil]); first | done | rfl | (simp only [List.length_drop, List.length_take]; rfl)) ?_; (with_reducible refine (secateurref04_Lines.calls a0 t109 t112 t113 _ A7.out).mono ?_); rintro e w57 ⟨v110, rfl, ho0, hb⟩; refine ⟨_, rfl, ?_⟩; have n0_ := Aside0.mk (Kd.R_elder' (by (with_reducible repeat (first | apply Kd.R_alloc | apply Kd.R_drewN | apply Kd.R_drew)); exact (Kd.R_mono (Kd.R_far (p := ⟨gb108, 1, none⟩) (Kd.R_far (p := ⟨gb108, 0, none⟩) (Kd.R_types HO105.out BK108.out (by decide)) (fun _ hk => hk.2) (.int .i64 t106)) (fun _ hk => hk.2) (.int .i64 t107)) (fun _ h_ => h_.1))) (Kd.R_base ho0) hb); have n1_ := Aside0.mk (Kd.R_lower (Kd.R_new' ho0 (Kd.R_lt (by (with_reducible repeat (first | apply Kd.R_alloc | apply Kd.R_drewN | apply Kd.R_drew)); exact (Kd.R_mono (Kd.R_far (p := ⟨gb108, 1, none⟩) (Kd.R_far (p := ⟨gb108, 0, none⟩) (Kd.R_types HO105.out BK108.out (by decide)) (fun _ hk => hk.2) (.int .i64 t106)) (fun _ hk => hk.2) (.int .i64 t107)) (fun _ h_ => h_.1))))) (below_size (by repeat (first | (with_reducible first | exact HB.out | apply below_alloc | apply pw_below_drewN | apply below_drew1 | refine below_set ?_ GE108.out) | exact HB.out)))); have n2_ := Aside0.mk (blk_below (g := gb108) (o := .cells #[.int .i64 t106, .int .i64 t107] 31 (0, 0)) (by (with_reducible repeat (first | refine blk_drewN ?_ _ | refine blk_drew ?_ | refine blk_alloc ?_ _)); refine blk_put (cs := #[.int .i64 t106, .int .i64 0]) ?_ 1 _ rfl; (with_reducible repeat (first | refine blk_drewN ?_ _ | refine blk_drew ?_ | refine blk_alloc ?_ _)); refine blk_put (cs := #[.int .i64 0, .int .i64 0]) ?_ 0 _ rfl; (with_reducible repeat (first | refine blk_drewN ?_ _ | refine blk_drew ?_ | refine blk_alloc ?_ _)); exact BK108.out) hb); have n3_ := Aside0.mk (below_step (by repeat (first | (with_reducible first | exact HB.out | apply below_alloc | apply pw_below_drewN | apply below_drew1 | refine below_set ?_ GE108.out) | exact HB.out)) hb); clear HO105; clear BK108; clear HB; have HO105 := n0_; have HO111 := n1_; have BK108 := n2_; have HB := n3_; clear n0_ n1_ n2_ n3_; (try clear hb); (try clear hb2); (try clear hk); (try clear hi); (try clear ho0)) | ((with_reducible refine gate_dst (N := 6) rfl ?_); refine box_event ?hg (N := 6) ?hd (cs := #[.int .i64 0, .int .i64 0]) (t := 31) ?hr ?_; (case hd => rfl); (case hg => rfl); (case hr => first | (go_simp; done) | (go_simp; rfl)); intro gb114 hg w58 hbox hb; have n0_ := Aside0.mk (Kd.R_below (by (with_reducible repeat (first | apply Kd.R_alloc | apply Kd.R_drewN | apply Kd.R_drew)); exact HO105.out) hb); have n1_ := Aside0.mk (Kd.R_below (by (with_reducible repeat (first | apply Kd.R_alloc | apply Kd.R_drewN | apply Kd.R_drew)); exact HO111.out) hb); have n2_ := Aside0.mk (blk_below (g := gb108) (o := .cells #[.int .i64 t106, .int .i64 t107] 31 (0, 0)) (by (with_reducible repeat (first | refine blk_drewN ?_ _ | refine blk_drew ?_ | refine blk_alloc ?_ _)); exact BK108.out) hb); have n3_ := Aside0.mk (below_step (by repeat (first | (with_reducible first | exact HB.out | apply below_alloc | apply pw_below_drewN | apply below_drew1 | refine below_set ?_ GE108.out) | exact HB.out)) hb); have n4_ := Aside0.mk (hbox); have n5_ := Aside0.mk ((by rw [hg]; exact (below_size (by repeat (first | (with_reducible first | exact HB.out | apply below_alloc | apply pw_below_drewN | apply below_drew1 | refine below_set ?_ GE108.out) | exact HB.out))) : w.heap.size ≤ gb114)); have n6_ := Aside0.mk ((by rw [hg]; exact (below_size (by repeat (first | (with_reducible first | exact HB.out | apply below_alloc | apply pw_below_drewN | apply below_drew1 | refine below_set ?_ GE108.out) | exact HB.out))) : w.heap.size ≤ gb114)); have n7_ := Aside0.mk ((by rw [hg]; exact Nat.ne_of_lt (blk_lt (g := gb108) (o := .cells #[.int .i64 t106, .int .i64 t107] 31 (0, 0)) (by (with_reducible repeat (first | refine blk_drewN ?_ _ | refine blk_drew ?_ | refine blk_alloc ?_ _)); exact BK108.out)) : gb108 ≠ gb114)); have n8_ := Aside0.mk ((by rw [hg]; exact Nat.ne_of_gt (blk_lt (g := gb108) (o := .cells #[.int .i64 t106, .int .i64 t107] 31 (0, 0)) (by (with_reducible repeat (first | refine blk_drewN ?_ _ | refine blk_drew ?_ | refine blk_alloc ?_ _)); exact BK108.out)) : gb114 ≠ gb108)); clear HO105; clear HO111; clear BK108; clear HB; have HO105 := n0_; have HO111 := n1_; have BK108 := n2_; have HB := n3_; have BK114 := n4_; have GW114 := n5_; have GE114 := n6_; have NB108_114 := n7_; have NB114_108 := n8_; clear n0_ n1_ n2_ n3_ n4_ n5_ n6_ n7_ n8_; clear hb hbox hg; have hnb59 := NB114_108.out; have hnc59 := NB108_114.out; have hcz60_0 : w58.cell? ⟨gb114, 0, none⟩ = some (.int .i64 0) := (blk_cell BK114.out 0).trans rfl; have hcz60_1 : w58.cell? ⟨gb114, 1, none⟩ = some (.int .i64 0) := (blk_cell BK114.out 1).trans rfl; have hfz60_0 := blk_frozen BK114.out 0; have hfz60_1 := blk_frozen BK114.out 1) | ((with_reducible refine gate_callee (f := 39) rfl ?_); refine goesL_ (some 20) rfl rfl Tryd.func39 (by kernel_rfl) rfl #[] rfl (by (try simp only [List.map_toArray, List.map_cons, List.map_nil]); first | done | rfl | (simp only [List.length_drop, List.length_take]; rfl)) ?_; (with_reducible refine (secateurlaw04_live.calls  false _ ?side1 A8.out).mono ?_); (case side1 => exact MaxL.below HGMaxL.out (by repeat (first | (with_reducible first | exact HB.out | apply below_alloc | apply pw_below_drewN | apply below_drew1 | refine below_set ?_ GE108.out | refine below_set ?_ GE114.out) | exact HB.out))); rintro e w61 ⟨rfl, hb⟩; refine ⟨_, rfl, ?_⟩; have n0_ := Aside0.mk (Kd.R_below (by (with_reducible repeat (first | apply Kd.R_alloc | apply Kd.R_drewN | apply Kd.R_drew)); exact (Kd.R_mono (Kd.R_far (p := ⟨gb114, 1, none⟩) (Kd.R_far (p := ⟨gb114, 0, none⟩) (Kd.R_types HO105.out BK114.out (by decide)) (fun _ hk => hk.2) (.int .i64 t112)) (fun _ hk => hk.2) (.int .i64 t113)) (fun _ h_ => h_.1))) hb); have n1_ := Aside0.mk (Kd.R_below (by (with_reducible repeat (first | apply Kd.R_alloc | apply Kd.R_drewN | apply Kd.R_drew)); exact (Kd.R_mono (Kd.R_far (p := ⟨gb114, 1, none⟩) (Kd.R_far (p := ⟨gb114, 0, none⟩) (Kd.R_types HO111.out BK114.out (by decide)) (fun _ hk => hk.2) (.int .i64 t112)) (fun _ hk => hk.2) (.int .i64 t113)) (fun _ h_ => h_.1))) hb); have n2_ := Aside0.mk (blk_below (g := gb108) (o := .cells #[.int .i64 t106, .int .i64 t107] 31 (0, 0)) (by (with_reducible repeat (first | refine blk_drewN ?_ _ | refine blk_drew ?_ | refine blk_alloc ?_ _)); refine blk_far ?_ NB108_114.out _; (with_reducible repeat (first | refine blk_drewN ?_ _ | refine blk_drew ?_ | refine blk_alloc ?_ _)); refine blk_far ?_ NB108_114.out _; (with_reducible repeat (first | refine blk_drewN ?_ _ | refine blk_drew ?_ | refine blk_alloc ?_ _)); exact BK108.out) hb); have n3_ := Aside0.mk (blk_below (g := gb114) (o := .cells #[.int .i64 t112, .int .i64 t113] 31 (0, 0)) (by (with_reducible repeat (first | refine blk_drewN ?_ _ | refine blk_drew ?_ | refine blk_alloc ?_ _)); refine blk_put (cs := #[.int .i64 t112, .int .i64 0]) ?_ 1 _ rfl; (with_reducible repeat (first | refine blk_drewN ?_ _ | refine blk_drew ?_ | refine blk_alloc ?_ _)); refine blk_put (cs := #[.int .i64 0, .int .i64 0]) ?_ 0 _ rfl; (with_reducible repeat (first | refine blk_drewN ?_ _ | refine blk_drew ?_ | refine blk_alloc ?_ _)); exact BK114.out) hb); have n4_ := Aside0.mk (below_step (by repeat (first | (with_reducible first | exact HB.out | apply below_alloc | apply pw_below_drewN | apply below_drew1 | refine below_set ?_ GE108.out | refine below_set ?_ GE114.out) | exact HB.out)) hb); clear HO105; clear HO111; clear BK108; clear BK114; clear HB; have HO105 := n0_; have HO111 := n1_; have BK108 := n2_; have BK114 := n3_; have HB := n4_; clear n0_ n1_ n2_ n3_ n4_; (try clear hb); (try clear hb2); (try clear hk); (try clear hi)))
      go_ret
      exact ⟨by first | rfl | (simp [errW_none, errW_some] <;> rfl) | (simp [*, errW_none, errW_some] <;> rfl), by repeat (first | (with_reducible first | exact HB.out | apply below_alloc | apply pw_below_drewN | apply below_drew1 | refine below_set ?_ GE108.out | refine below_set ?_ GE114.out) | exact HB.out)⟩

/-- THE ONE PURE STATEMENT of secateurlaw04_WordLines: yours. -/
def secateurlaw04_WordLines.Pure : Prop := ∀ (a0 : ByteArray), a0.size ≤ 140737488351232 → secateurlaw04_WordLines.f a0 = some true
theorem secateurlaw04_WordLines.walk (P : secateurlaw04_WordLines.Pure) (a0 : ByteArray) (w : World) (w0 : a0.size ≤ 140737488351232) (hGMaxL : MaxL w) :
    Calls Tryd.prog 9 #[.string a0] w fun e w' => e = .returned (.bool true) ∧ Below w.heap.size w w' := by
  have h := P a0 w0
  refine (secateurlaw04_WordLines.calls a0 true w hGMaxL h).mono ?_
  rintro e w' ⟨rfl, hd⟩
  exact ⟨rfl, hd⟩

end Go.Proofs.YtmlbfepibfobaaaDoor.PWordLines
end

section
-- Written by this session's program layer.py (the kit's print, turned), not by hand.
namespace Go.Proofs.YtmlbfepibfobaaaDoor.PWordLines
open Go.RowKit Go.Proofs.YtmlbfepibfobaaaDoorW.PrintWords Go.Proofs.YtmlbfepibfobaaaDoorW.PrintLast Go.Proofs.YtmlbfepibfobaaaDoorW.PrintMore Go.Proofs.YtmlbfepibfobaaaDoor.Hand
attribute [local go_sem] max2_int min2_int max_two min_two max_three min_three max_four min_four   -- for this text's walks alone
set_option linter.unusedVariables false
set_option linter.unusedSimpArgs false

end Go.Proofs.YtmlbfepibfobaaaDoor.PWordLines
end

section
namespace Go.Proofs.YtmlbfepibfobaaaDoor.Pure
open Go.RowKit Go.Proofs.YtmlbfepibfobaaaDoor.PWordLines Go.Proofs.YtmlbfepibfobaaaDoor.Hand Go.Proofs.YtmlbfepibfobaaaDoorW.PrintWords Go.Proofs.YtmlbfepibfobaaaDoorW.PrintLast

theorem WordLines : secateurlaw04_WordLines.Pure := by
  intro s hs
  have h1 : word_Lines.f s = some ((linesL (bl s)).1.map lb, (linesL (bl s)).2) := by unfold word_Lines.f; rw [if_pos (by omega)]
  have h2 : secateurref04_Lines.f s = some ((linesL (bl s)).1.map lb, (linesL (bl s)).2) := h1
  have h7 : secateurlaw04_live.f = some true := rfl
  unfold secateurlaw04_WordLines.f secateurlaw04_great.f
  rw [Option.bind_some, h7]
  by_cases hb : (s.size : Int) > 65544
  · rw [if_pos (decide_eq_true hb)]; rfl
  · have h3 : word_Fields.f s = some ((fieldsL (bl s)).map lb) := by unfold word_Fields.f; rw [if_pos (by omega)]
    have h4 : secateurref04_Fields.f s = some ((fieldsL (bl s)).map lb) := h3
    rw [if_neg (by rw [decide_eq_false hb]; decide), h1, Option.bind_some, h2, Option.bind_some, Option.bind_some, if_pos rfl, if_pos (by simp)]
    unfold secateurref01_SameTexts.f
    rw [Option.bind_some, if_pos (by simp), h3, Option.bind_some, h4, Option.bind_some, Option.bind_some]
    simp
end Go.Proofs.YtmlbfepibfobaaaDoor.Pure
end
