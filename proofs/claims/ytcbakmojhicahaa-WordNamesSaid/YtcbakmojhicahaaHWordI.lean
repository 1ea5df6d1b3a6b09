import Derived.Test.YtcbakmojhicahaaHWordH
import Derived.Test.YtcbakmojhicahaaHRange
import Derived.Test.YtcbakmojhicahaaHKindM
namespace Go.Proofs.Ytcbakmojhicahaa.Hand
open Go.RowKit Go.Shelf Go.Proofs.YtcbakmojhicahaaW.PrintWords Go.Proofs.YtcbakmojhicahaaW.PrintLast Go.Proofs.YtcbakmojhicahaaW.PrintMore
set_option linter.unusedVariables false
set_option linter.unusedSimpArgs false

/-! ### strings.Cut at one byte -/
theorem cut_until (c : UInt8) : ∀ l : List UInt8, Lib.cut l [c] = match untilL c l with | some (n, r) => (n, r, true) | none => (l, [], false)
  | [] => by simp [Lib.cut, Lib.index, untilL]
  | b :: l => by
    have ih := cut_until c l
    have hge := Lib.index_ge l [c]
    unfold Lib.cut at ih ⊢
    rw [Lib.index]
    by_cases h : b = c
    · subst h
      have : List.isPrefixOf [b] (b :: l) = true := by simp [List.isPrefixOf]
      rw [if_pos this]
      simp [untilL]
    · have hp : List.isPrefixOf [c] (b :: l) = false := by simp [List.isPrefixOf]; exact fun e => h e.symm
      rw [hp]
      simp only [Bool.false_eq_true, if_false]
      by_cases hi : Lib.index l [c] = -1
      · rw [hi] at ih ⊢
        simp only [beq_self_eq_true, if_true] at ih ⊢
        rw [if_neg (by decide)] at ih
        rw [if_neg (by decide)]
        cases hu : untilL c l with
        | none => rw [untilL, if_neg h, hu]; rfl
        | some p => rw [hu] at ih; simp at ih
      · have hb : (Lib.index l [c] == -1) = false := beq_eq_false_iff_ne.2 hi
        rw [hb]
        simp only [Bool.false_eq_true, if_false]
        rw [if_pos (by omega)] at ih
        rw [if_pos (by omega)]
        cases hu : untilL c l with
        | none => rw [hu] at ih; simp at ih
        | some p =>
          rw [hu] at ih
          simp only [Prod.mk.injEq, and_true] at ih
          rw [untilL, if_neg h, hu]
          have e : (Lib.index l [c] + 1).toNat = (Lib.index l [c]).toNat + 1 := by omega
          simp only [Option.map_some, Prod.mk.injEq, and_true]
          rw [e, List.take_succ_cons, ih.1]
          refine ⟨rfl, ?_⟩
          rw [show (Lib.index l [c]).toNat + 1 + [c].length = ((Lib.index l [c]).toNat + [c].length) + 1 from by omega, List.drop_succ_cons]
          exact ih.2

/-! ### a text's lines, one behind the other -/
def segsF : Nat → List UInt8 → List (ByteArray × Bool)
  | 0, _ => []
  | f + 1, l => if l = [] then [] else match untilL 10 l with
    | some (x, r) => (lb x, true) :: segsF f r
    | none => [(lb l, false)]
def goodS (x : ByteArray × Bool) : Bool := x.2 && (bl x.1).all seen
def runS : List ByteArray → List (ByteArray × Bool) → List ByteArray × Int × Int
  | out, [] => (out, 0, 0)
  | out, x :: r => if goodS x = true then runS (out ++ [x.1]) r else ([], 1, (out.length : Int) + 1)
theorem lin_seg (x : List UInt8) : ∀ (cur : List UInt8) (out : List (List UInt8)) (r : List UInt8), 10 ∉ x → lin cur out (x ++ 10 :: r) = if x.all seen = true then lin [] (out ++ [cur ++ x]) r else ([], 1, (out.length : Int) + 1) := by
  induction x with
  | nil => intro cur out r _; simp [lin]
  | cons b x ih =>
    intro cur out r h
    simp only [List.mem_cons, not_or] at h
    rw [List.cons_append, lin, if_neg (fun e => h.1 e.symm), List.all_cons]
    by_cases hb : seen b = true
    · rw [if_pos hb, ih _ _ _ h.2, hb, Bool.true_and]
      simp
    · rw [if_neg hb, if_neg]
      simp [hb]
theorem lin_last (x : List UInt8) : ∀ (cur : List UInt8) (out : List (List UInt8)), 10 ∉ x → (cur ≠ [] ∨ x ≠ []) → lin cur out x = ([], 1, (out.length : Int) + 1) := by
  induction x with
  | nil => intro cur out _ h; rw [lin, if_neg (by rcases h with h | h; exact h; exact absurd rfl h)]
  | cons b x ih =>
    intro cur out h _
    simp only [List.mem_cons, not_or] at h
    rw [lin, if_neg (fun e => h.1 e.symm)]
    by_cases hb : seen b = true
    · rw [if_pos hb, ih _ _ h.2 (.inl (by simp))]
    · rw [if_neg hb]
theorem run_segs : ∀ (f : Nat) (l : List UInt8) (out : List (List UInt8)), l.length ≤ f → runS (out.map lb) (segsF f l) = (((lin [] out l).1).map lb, (lin [] out l).2)
  | 0, l, out, h => by
    have : l = [] := List.length_eq_zero_iff.1 (by omega)
    subst this
    simp [segsF, runS, lin]
  | f + 1, l, out, h => by
    unfold segsF
    by_cases hl : l = []
    · subst hl; simp [runS, lin]
    · rw [if_neg hl]
      cases hu : untilL 10 l with
      | none =>
        have hn := (until_none l).1 hu
        rw [lin_last l [] out hn (.inr hl)]
        simp [runS, goodS]
      | some p =>
        obtain ⟨x, r⟩ := p
        obtain ⟨e, hx⟩ := until_some l x r hu
        have hr : r.length ≤ f := by rw [e] at h; simp at h; omega
        rw [e, lin_seg x [] out r hx]
        simp only [runS, goodS, bl_lb, Bool.true_and]
        by_cases ha : x.all seen = true
        · rw [if_pos ha, if_pos ha]
          have := run_segs f r (out ++ [x]) hr
          rw [List.map_append] at this
          exact this
        · rw [if_neg ha, if_neg ha]
          simp
/-- What package-level variable internal/bytealg.MaxLen holds. -/
def MaxL (w : World) : Prop := ∃ m, w.cell? ⟨0, 0, none⟩ = some (.int .i64 m)
end Go.Proofs.Ytcbakmojhicahaa.Hand
