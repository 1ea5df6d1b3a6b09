import Derived.Test.YtcbakmojhicahaaMgKindDescs1
import Derived.Test.YtcbakmojhicahaaMgKs1
import Derived.Test.YtcbakmojhicahaaMgKs0
import Derived.Test.YtcbakmojhicahaaProg
import Derived.Below
import Derived.Deep.Draws
import Derived.Deep.AppendLies
import Derived.Maps.AppendAt
import Derived.OwnWalk
import Derived.Laws.BytesArg
import Derived.Laws.MakeOwn
import Derived.Laws.OwnMore
import Derived.Deep.OwnRows
import Derived.Tactics
import Derived.Lib.ConvBytes
import Derived.Laws.Slices
import Derived.WalkKit
import Derived.KernelRfl
import Derived.RowKit3
import Derived.Deep.LoopGhost
import Derived.Deep.QuietTactic
import Derived.BigQuiet
import Derived.WideLaws
import Derived.Deep.DeepCutAuto
import Derived.Deep.CutBlock
import Derived.Deep.RegionHeld3
import Derived.Laws.Rows
import Derived.Lib.AppendStr
import Derived.ArgAppend
import Derived.Laws.IdiomCopy
import Derived.OrdersHeld
import Derived.Laws.BitsLemmas
import Derived.RowKit
import Derived.Test.YtcbakmojhicahaaWWords
import Derived.Test.YtcbakmojhicahaaWLast
import Derived.Test.YtcbakmojhicahaaWTab
import Derived.Test.YtcbakmojhicahaaWFour
import Derived.Test.YtcbakmojhicahaaWQPut
import Derived.Test.YtcbakmojhicahaaWApart
import Derived.Test.YtcbakmojhicahaaWArr
import Derived.Test.YtcbakmojhicahaaWZeros
import Derived.Test.YtcbakmojhicahaaWFoot
import Derived.Test.YtcbakmojhicahaaWKept
import Derived.Test.YtcbakmojhicahaaWShare
import Derived.Test.YtcbakmojhicahaaWN
import Derived.Test.YtcbakmojhicahaaWFootNe
import Derived.Test.YtcbakmojhicahaaWAt
import Derived.Test.YtcbakmojhicahaaWEqStruct
import Derived.Test.YtcbakmojhicahaaWRepsOne
import Derived.Test.YtcbakmojhicahaaWInv
import Derived.Test.YtcbakmojhicahaaWInvWords
import Derived.Test.YtcbakmojhicahaaWGuard
import Derived.Test.YtcbakmojhicahaaWNEv
import Derived.Test.YtcbakmojhicahaaWMore
import Derived.Test.YtcbakmojhicahaaMgKindDescs0
section
namespace Go.Proofs.Ytcbakmojhicahaa.Hand
open Go.RowKit Go.Proofs.YtcbakmojhicahaaW.PrintWords Go.Proofs.YtcbakmojhicahaaW.PrintLast Go.Proofs.YtcbakmojhicahaaW.PrintMore
set_option linter.unusedVariables false
set_option linter.unusedSimpArgs false

theorem renamedR_loop (l : List (S78)) (hl : l.length ≤ 1048576) (hL : ∀ x ∈ l, x.f1.size ≤ 140737488355328) (x0 : Int) (x1 : ByteArray) (hx : x1.size ≤ 140737488355328) (ps : List (S54)) (hps : ps.length ≤ 8) (hp : ∀ x ∈ ps, x.f1.size ≤ 140737488355328) : ∀ (d i k : Nat), ps.length - i = d → i ≤ ps.length → d + 2 * l.length + 30 ≤ k →
    Q8.secateurref06_Renamed.l0 k l ps ((ps.take i).map (renS l)) (i : Int) x0 x1 = some (lb (descD classL (renT (l.map pairT) (x0, bl x1)) ((ps.map (renS l)).map ofS)).1) := by
  have hL2 : ∀ p ∈ l.map pairT, p.2.length ≤ 140737488355328 := fun p hp => by
    obtain ⟨x, hx, rfl⟩ := List.mem_map.1 hp
    show (bl x.f1).length ≤ _
    rw [bl_len]
    exact hL x hx
  have hrS : ∀ x : S54, x.f1.size ≤ 140737488355328 → (renS l x).f1.size ≤ 140737488355328 := fun x hx => by
    show (lb (renT (l.map pairT) (ofS x)).2).size ≤ _
    rw [lb_size]
    exact renT_len hL2 (by show (bl x.f1).length ≤ _; rw [bl_len]; exact hx)
  intro d
  induction d with
  | zero =>
    intro i k hd hi hk
    obtain ⟨k, rfl⟩ : ∃ j, k = j + 1 := ⟨k - 1, by omega⟩
    have hz : (lb (renT (l.map pairT) (x0, bl x1)).2).size ≤ 140737488355328 := by
      rw [lb_size]
      exact renT_len hL2 (by show (bl x1).length ≤ _; rw [bl_len]; exact hx)
    rw [Q8.secateurref06_Renamed.l0, if_neg (by omega), renR_eq x0 x1 l (by omega) k (by omega), Option.bind_some, List.take_of_length_le (by omega)]
    simp only
    rw [descR_eq _ _ hz _ (by rw [List.length_map]; omega) (fun y hy => by
      obtain ⟨x, hx, rfl⟩ := List.mem_map.1 hy
      exact hrS x (hp x hx)) k (by rw [List.length_map]; omega), Option.bind_some]
    rfl
  | succ d ih =>
    intro i k hd hi hk
    obtain ⟨k, rfl⟩ : ∃ j, k = j + 1 := ⟨k - 1, by omega⟩
    have h1 : i < ps.length := by omega
    have hw : wrap64 ((i : Int) + 1) = ((i + 1 : Nat) : Int) := by rw [wrap_in (by omega) (by omega)]; omega
    have ht : (ps.take (i + 1)).map (renS l) = (ps.take i).map (renS l) ++ [renS l ps[i]] := by
      rw [List.take_add_one, List.getElem?_eq_getElem h1, List.map_append]
      rfl
    have ih := ih (i + 1) k (by omega) (by omega) (by omega)
    rw [ht] at ih
    rw [Q8.secateurref06_Renamed.l0, if_pos (by omega), if_pos (by omega), rdT_get ps i h1, renR_eq _ _ l (by omega) k (by omega), Option.bind_some, if_pos (by rw [List.length_map, List.length_take]; omega), hw]
    exact ih
theorem renamedR_eq (s : ByteArray) (l : List (S78)) (hl : l.length ≤ 1048576) (hL : ∀ x ∈ l, x.f1.size ≤ 140737488355328) (k : Nat) (hk : 2 * l.length + 400 ≤ k) :
    Q8.secateurref06_Renamed.f k s l = some (lb (renD classL (bl s) (l.map pairT))) := by
  unfold Q8.secateurref06_Renamed.f renD
  rw [splitR_eq s k (by omega), Option.bind_some]
  obtain ⟨h1, h2, h3⟩ := split_short (bl s)
  obtain ⟨ps, t, e, hq⟩ : ∃ ps t e, splitD classL (bl s) = (ps, t, e) := ⟨_, _, _, rfl⟩
  rw [hq] at h1 h2 h3 ⊢
  simp only at h1 h2 h3 ⊢
  by_cases h0 : e = 0
  · rw [if_pos h0, if_pos h0]
    have h := renamedR_loop l hl hL t.1 (lb t.2) (by rw [lb_size]; omega) (ps.map toS) (by rw [List.length_map]; exact h1) (fun x hx => by
      obtain ⟨y, hy, rfl⟩ := List.mem_map.1 hx
      show (lb y.2).size ≤ _
      rw [lb_size]
      have := h2 y hy
      omega) _ 0 k rfl (by omega) (by rw [List.length_map]; omega)
    rw [ren_map] at h
    exact h
  · rw [if_neg h0, if_neg h0]
    rfl
theorem classesR_loop (xs : List (S54)) (hl : xs.length ≤ 9) : ∀ (d i k : Nat) (acc : List ByteArray), xs.length - i = d → i ≤ xs.length → d < k → acc.length ≤ i →
    Q8.secateurref06_Classes.l0 k xs acc (i : Int) = some (acc ++ ((((xs.drop i).map ofS).map (·.2)).filter (fun c => !c.isEmpty)).map lb) := by
  intro d
  induction d with
  | zero =>
    intro i k acc hd hi hk _
    obtain ⟨k, rfl⟩ : ∃ j, k = j + 1 := ⟨k - 1, by omega⟩
    rw [Q8.secateurref06_Classes.l0, if_neg (by omega), List.drop_of_length_le (by omega)]
    simp
  | succ d ih =>
    intro i k acc hd hi hk ha
    obtain ⟨k, rfl⟩ : ∃ j, k = j + 1 := ⟨k - 1, by omega⟩
    have h1 : i < xs.length := by omega
    have hw : wrap64 ((i : Int) + 1) = ((i + 1 : Nat) : Int) := by rw [wrap_in (by omega) (by omega)]; omega
    have hb : xs[i].f1.toList = bl xs[i].f1 := ByteArray.toList_eq _
    rw [Q8.secateurref06_Classes.l0, if_pos (by omega), if_pos (by omega), rdT_get xs i h1, hw, hb, List.drop_eq_getElem_cons h1, List.map_cons, List.map_cons]
    have hof : (ofS xs[i]).2 = bl xs[i].f1 := rfl
    rw [hof]
    by_cases he : bl xs[i].f1 = []
    · rw [if_pos he, ih (i + 1) k acc (by omega) (by omega) (by omega) (by omega), he]
      rfl
    · rw [if_neg he, if_pos (by omega), ih (i + 1) k _ (by omega) (by omega) (by omega) (by rw [List.length_append]; simp; omega), List.filter_cons, if_pos (by simpa using he), List.map_cons, lb_bl, List.append_assoc]
      rfl
theorem classesR_eq (s : ByteArray) (k : Nat) (hk : 300 ≤ k) : Q8.secateurref06_Classes.f k s = some ((classesD classL (bl s)).map lb) := by
  unfold Q8.secateurref06_Classes.f classesD
  rw [splitR_eq s k hk, Option.bind_some]
  obtain ⟨h1, h2, h3⟩ := split_short (bl s)
  obtain ⟨ps, t, e, hq⟩ : ∃ ps t e, splitD classL (bl s) = (ps, t, e) := ⟨_, _, _, rfl⟩
  rw [hq] at h1 h2 h3 ⊢
  simp only at h1 h2 h3 ⊢
  by_cases h0 : e = 0
  · rw [if_pos h0, if_pos h0, if_pos (by rw [List.length_map]; simp; omega), Option.bind_some, if_pos (by rw [List.length_append, List.length_map]; simp; omega)]
    have h := classesR_loop (ps.map toS ++ [toS t]) (by rw [List.length_append, List.length_map]; simp; omega) _ 0 k [] rfl (by omega) (by rw [List.length_append, List.length_map]; simp; omega) (by simp)
    rw [List.drop_zero, show ps.map toS ++ [toS t] = (ps ++ [t]).map toS from by simp, show ((ps ++ [t]).map toS).map ofS = ps ++ [t] from by rw [List.map_map, show (ofS ∘ toS) = id from by funext x; exact ofS_toS x, List.map_id]] at h
    simp only [List.nil_append] at h ⊢
    rw [show ps.map toS ++ [(⟨t.1, lb t.2⟩ : S54)] = (ps ++ [t]).map toS from by simp [toS]]
    exact h
  · rw [if_neg h0, if_neg h0]
    rfl
end Go.Proofs.Ytcbakmojhicahaa.Hand
end

section
namespace Go.Proofs.Ytcbakmojhicahaa.Hand
open Go.RowKit Go.Proofs.YtcbakmojhicahaaW.PrintWords Go.Proofs.YtcbakmojhicahaaW.PrintLast Go.Proofs.YtcbakmojhicahaaW.PrintMore
set_option linter.unusedVariables false
set_option linter.unusedSimpArgs false

def secateurref06_RenamedType.f (k : Int) (c : ByteArray) (l : List (S78)) : Option (Int × ByteArray) := if l.length ≤ 1048576 then some ((renT (l.map pairT) (k, bl c)).1, lb (renT (l.map pairT) (k, bl c)).2) else none
theorem secateurref06_RenamedType.calls (a0_0 : Int) (a0_1 : ByteArray) (A1 : Option Addr) (c1 : Nat) (l1 : List (S78)) (r1 : Int) (r2 : ByteArray) (w : World) (hr1 : Kd.C k78 w A1 l1.length l1) (hc1 : l1.length ≤ c1) (h : secateurref06_RenamedType.f a0_0 a0_1 l1 = some (r1, r2)) :
    Calls Try.prog 45 #[.agg #[.int .i64 a0_0, .string a0_1], .slice A1 l1.length c1] w fun e w' => e = .returned (.agg #[.int .i64 r1, .string r2]) ∧ Below w.heap.size w w' := by
  unfold secateurref06_RenamedType.f at h
  split at h
  · rename_i hs
    exact Q8.secateurref06_RenamedType.calls _ a0_0 a0_1 A1 c1 l1 r1 r2 w hr1 hc1 ((renR_eq a0_0 a0_1 l1 (by omega) _ (Nat.le_refl _)).trans h)
  · cases h
def secateurref06_Desc.f (k : Int) (c : ByteArray) (l : List (S54)) : Option (ByteArray × Int) := if c.size ≤ 140737488355328 ∧ l.length ≤ 1048576 ∧ shortS l = true then some (lb (descD classL (k, bl c) (l.map ofS)).1, (descD classL (k, bl c) (l.map ofS)).2) else none
theorem secateurref06_Desc.calls (a0_0 : Int) (a0_1 : ByteArray) (A1 : Option Addr) (c1 : Nat) (l1 : List (S54)) (r1 : ByteArray) (r2 : Int) (w : World) (hr1 : Kd.C k54 w A1 l1.length l1) (hc1 : l1.length ≤ c1) (h : secateurref06_Desc.f a0_0 a0_1 l1 = some (r1, r2)) :
    Calls Try.prog 48 #[.agg #[.int .i64 a0_0, .string a0_1], .slice A1 l1.length c1] w fun e w' => e = .returned (.tuple #[.string r1, .int .i64 r2]) ∧ Below w.heap.size w w' := by
  unfold secateurref06_Desc.f at h
  split at h
  · rename_i hs
    exact Q8.secateurref06_Desc.calls _ a0_0 a0_1 A1 c1 l1 r1 r2 w hr1 hc1 ((descR_eq a0_0 a0_1 hs.1 l1 hs.2.1 (short_mem hs.2.2) _ (Nat.le_refl _)).trans h)
  · cases h
def secateurref06_Split.f (s : ByteArray) : Option (List (S54) × Int × ByteArray × Int) := some ((splitD classL (bl s)).1.map toS, (splitD classL (bl s)).2.1.1, lb (splitD classL (bl s)).2.1.2, (splitD classL (bl s)).2.2)
theorem secateurref06_Split.calls (a0 : ByteArray) (r1 : List (S54)) (r2 : Int) (r3 : ByteArray) (r4 : Int) (w : World) (h : secateurref06_Split.f a0 = some (r1, r2, r3, r4)) :
    Calls Try.prog 49 #[.string a0] w fun e w' => ∃ v0_ : Value, e = .returned (.tuple #[v0_, .agg #[.int .i64 r2, .string r3], .int .i64 r4]) ∧ Kd.R k54 54 w' w.heap.size (fun _ => True) v0_ r1 ∧ Below w.heap.size w w' :=
  Q8.secateurref06_Split.calls 300 a0 r1 r2 r3 r4 w ((splitR_eq a0 300 (Nat.le_refl _)).trans h)
def secateurref06_Renamed.f (s : ByteArray) (l : List (S78)) : Option ByteArray := if l.length ≤ 1048576 ∧ shortP l = true then some (lb (renD classL (bl s) (l.map pairT))) else none
theorem secateurref06_Renamed.calls (a0 : ByteArray) (A1 : Option Addr) (c1 : Nat) (l1 : List (S78)) (r : ByteArray) (w : World) (hr1 : Kd.C k78 w A1 l1.length l1) (hc1 : l1.length ≤ c1) (h : secateurref06_Renamed.f a0 l1 = some r) :
    Calls Try.prog 47 #[.string a0, .slice A1 l1.length c1] w fun e w' => e = .returned (.string r) ∧ Below w.heap.size w w' := by
  unfold secateurref06_Renamed.f at h
  split at h
  · rename_i hs
    exact Q8.secateurref06_Renamed.calls _ a0 A1 c1 l1 r w hr1 hc1 ((renamedR_eq a0 l1 hs.1 (shortP_mem hs.2) _ (Nat.le_refl _)).trans h)
  · cases h
def secateurref06_Classes.f (s : ByteArray) : Option (List ByteArray) := some ((classesD classL (bl s)).map lb)
theorem secateurref06_Classes.calls (a0 : ByteArray) (r : List ByteArray) (w : World) (h : secateurref06_Classes.f a0 = some r) :
    Calls Try.prog 52 #[.string a0] w fun e w' => ∃ v0_ : Value, e = .returned (v0_) ∧ Kd.R Kd.string 9 w' w.heap.size (fun _ => True) v0_ r ∧ Below w.heap.size w w' :=
  Q8.secateurref06_Classes.calls 300 a0 r w ((classesR_eq a0 300 (Nat.le_refl _)).trans h)
end Go.Proofs.Ytcbakmojhicahaa.Hand
end

section
-- Written by this session's program layer.py (the kit's print, turned), not by hand.
namespace Go.Proofs.Ytcbakmojhicahaa.Q12
open Go.RowKit Go.Proofs.YtcbakmojhicahaaW.PrintWords Go.Proofs.YtcbakmojhicahaaW.PrintLast Go.Proofs.YtcbakmojhicahaaW.PrintMore Go.Proofs.Ytcbakmojhicahaa.Hand
attribute [local go_sem] max2_int min2_int max_two min_two max_three min_three max_four min_four   -- for this text's walks alone
set_option linter.unusedVariables false
set_option linter.unusedSimpArgs false



def errW : Option Int → Value
  | none => .nilIface
  | some c => .iface 0 (.int .i64 c)
theorem errW_none : errW none = .nilIface := rfl
theorem errW_some (c : Int) : errW (some c) = .iface 0 (.int .i64 c) := rfl

theorem info9 : (Try.prog.info? 9).map (fun i => (i.zero, i.size, i.bytes)) = some (some (.string ⟨#[]⟩), 1, 16) := by kernel_rfl
theorem info54 : (Try.prog.info? 54).map (fun i => (i.zero, i.size, i.bytes)) = some (some (.agg #[(.int .i64 0), (.string ⟨#[]⟩)]), 2, 24) := by kernel_rfl
-- the values' own types
end Go.Proofs.Ytcbakmojhicahaa.Q12
end

section
-- Written by this session's program layer.py (the kit's print, turned), not by hand.
namespace Go.Proofs.Ytcbakmojhicahaa.Q12
open Go.RowKit Go.Proofs.YtcbakmojhicahaaW.PrintWords Go.Proofs.YtcbakmojhicahaaW.PrintLast Go.Proofs.YtcbakmojhicahaaW.PrintMore Go.Proofs.Ytcbakmojhicahaa.Hand
attribute [local go_sem] max2_int min2_int max_two min_two max_three min_three max_four min_four   -- for this text's walks alone
set_option linter.unusedVariables false
set_option linter.unusedSimpArgs false

-- BY HAND: function 42 (kind_Split)

/-! ### kind_Classes: function 51 -/
def kind_Classes.l0 : Nat → List ByteArray → List (S54) → Int → Int → Option (List ByteArray)
  | 0, _, _, _, _ => none
  | k + 1, x6, x20, x21, x22 => if x22 < x21 then (if 0 ≤ x22 then (if x22 < (x20.length : Int) then (if ((rd_T54 x20 x22).f1).toList = ([] : List UInt8) then (kind_Classes.l0 k x6 x20 x21 (wrap64 (x22 + 1))) else (if x6.length < 8796093022208 then (kind_Classes.l0 k (x6 ++ [(rd_T54 x20 x22).f1]) x20 x21 (wrap64 (x22 + 1))) else (none))) else (none)) else (none)) else (some x6)
def kind_Classes.f (k : Nat) (a0 : ByteArray) : Option (List ByteArray) := (kind_Split.f a0).bind fun bt101 => (if bt101.2.2.2 = 0 then (if bt101.1.length < 5864062014805 then ((some (bt101.1 ++ [(⟨bt101.2.1, bt101.2.2.1⟩ : S54)] : List (S54))).bind fun y108 => (kind_Classes.l0 k ([] : List ByteArray) y108 (y108.length : Int) 0)) else (none)) else (some ([] : List ByteArray)))
theorem kind_Classes.mono_l : ∀ k, (∀ y0 y1 y2 y3, LeO (kind_Classes.l0 k y0 y1 y2 y3) (kind_Classes.l0 (k + 1) y0 y1 y2 y3))
  | 0 => fun _ _ _ _ r h => by simp [kind_Classes.l0] at h
  | k + 1 => by
    have ih0 := kind_Classes.mono_l k
    · intro y0 y1 y2 y3
      unfold kind_Classes.l0
      repeat' first
      | (with_reducible exact ih0 _ _ _ _)
      | (with_reducible exact LeO.refl _)
      | (with_reducible exact LeO.none _)
      | (with_reducible refine LeO.ite ?_ ?_)
      | (with_reducible refine LeO.bind ?_ (fun _ => ?_))
      | exact ih0 _ _ _ _
      | exact LeO.none _
      | refine LeO.ite ?_ ?_
      | refine LeO.bind ?_ (fun _ => ?_)
theorem kind_Classes.mono : ∀ a0 k, LeO (kind_Classes.f k a0) (kind_Classes.f (k + 1) a0) := by
  intro a0 k
  have ih0 := kind_Classes.mono_l k
  unfold kind_Classes.f
  repeat' first
      | (with_reducible exact ih0 _ _ _ _)
      | (with_reducible exact LeO.refl _)
      | (with_reducible exact LeO.none _)
      | (with_reducible refine LeO.ite ?_ ?_)
      | (with_reducible refine LeO.bind ?_ (fun _ => ?_))
      | exact ih0 _ _ _ _
      | exact LeO.none _
      | refine LeO.ite ?_ ?_
      | refine LeO.bind ?_ (fun _ => ?_)
set_option maxHeartbeats 8000000 in
set_option maxRecDepth 100000 in
theorem kind_Classes.calls (k : Nat) (a0 : ByteArray) (r : List ByteArray) (w : World) (hGMaxL : MaxL w) (h : kind_Classes.f k a0 = some r) :
    Calls Try.prog 51 #[.string a0] w fun e w' => ∃ v0_ : Value, e = .returned (v0_) ∧ Kd.R Kd.string 9 w' w.heap.size (fun _ => True) v0_ r ∧ Below w.heap.size w w' := by
  have hu54 := Try.underlying54
  have HGMaxL := Aside0.mk hGMaxL
  clear hGMaxL
  have HB := Aside0.mk (Below.refl w.heap.size w)
  have H : ((kind_Split.f a0).bind fun bt101 => (if bt101.2.2.2 = 0 then (if bt101.1.length < 5864062014805 then ((some (bt101.1 ++ [(⟨bt101.2.1, bt101.2.2.1⟩ : S54)] : List (S54))).bind fun y108 => (kind_Classes.l0 k ([] : List ByteArray) y108 (y108.length : Int) 0)) else (none)) else (some ([] : List ByteArray)))) = some r := h
  clear h
  replace H := Option.bind_eq_some_iff.mp H
  obtain ⟨⟨t101, t104, t105, t106⟩, A20, H⟩ := H
  replace H : (if t106 = 0 then (if t101.length < 5864062014805 then ((some (t101 ++ [(⟨t104, t105⟩ : S54)] : List (S54))).bind fun y108 => (kind_Classes.l0 k ([] : List ByteArray) y108 (y108.length : Int) 0)) else (none)) else (some ([] : List ByteArray))) = some r := H
  have A2 := Aside0.mk A20
  clear A20
  by_cases c3 : t106 = 0
  · rw [if_pos c3] at H
    have c3b0 : (t106 == 0) = true := beq_iff_eq.mpr c3
    have c3b1 : (t106 != 0) = false := bne_eq_false_iff_eq.mpr c3
    clear c3
    by_cases c4 : t101.length < 5864062014805
    · rw [if_pos c4] at H
      have LMc4 := Aside0.mk c4
      clear c4
      obtain ⟨y108, hy108⟩ : ∃ y_ : List (S54), y_ = (t101 ++ [(⟨t104, t105⟩ : S54)]) := ⟨_, rfl⟩
      replace H : (kind_Classes.l0 k ([] : List ByteArray) y108 (y108.length : Int) 0) = some r := by first | (rw [hy108]; with_reducible exact H) | (have H2_ := (Option.bind_some _ _).symm.trans H; rw [hy108]; with_reducible exact H2_) | (have H2_ := (Option.bind_some _ _).symm.trans H; with_reducible exact H2_) | with_reducible exact H | (rw [hy108]; exact H) | exact H
      have Ny108 := Aside0.mk hy108
      clear hy108
      have H' := Aside0.mk H
      clear H
      go_enter Try.func51, Try.ntmps51
      go_wp2_with (first | ((with_reducible refine gate_callee (f := 42) rfl ?_); refine goesL_ (some 11) rfl rfl Try.func42 (by kernel_rfl) rfl #[.string a0] rfl (by (try simp only [List.map_toArray, List.map_cons, List.map_nil]); first | done | rfl | (simp only [List.length_drop, List.length_take]; rfl)) ?_; (with_reducible refine (kind_Split.calls a0 t101 t104 t105 t106 _ ?side1 A2.out).mono ?_); (case side1 => exact MaxL.below HGMaxL.out (by repeat (first | (with_reducible first | exact HB.out | apply below_alloc | apply pw_below_drewN | apply below_drew1) | exact HB.out))); rintro e w5 ⟨v102, rfl, ho0, hb⟩; refine ⟨_, rfl, ?_⟩; have n0_ := Aside0.mk (Kd.R_lower ho0 (below_size (by repeat (first | (with_reducible first | exact HB.out | apply below_alloc | apply pw_below_drewN | apply below_drew1) | exact HB.out)))); have n1_ := Aside0.mk (below_step (by repeat (first | (with_reducible first | exact HB.out | apply below_alloc | apply pw_below_drewN | apply below_drew1) | exact HB.out)) hb); clear HB; have HO103 := n0_; have HB := n1_; clear n0_ n1_; (try clear hb); (try clear hb2); (try clear hk); (try clear hi); (try clear ho0)) | ((with_reducible refine gate_dst (N := 4) rfl ?_); refine box_event ?hg (N := 4) ?hd (cs := #[.int .i64 0, .string (⟨#[]⟩ : ByteArray)]) (t := 54) ?hr ?_; (case hd => rfl); (case hg => rfl); (case hr => first | (go_simp; done) | (go_simp; rfl)); intro gb107 hg w6 hbox hb; have n0_ := Aside0.mk (Kd.R_below (Kd.R_elderB (by (with_reducible repeat (first | apply Kd.R_alloc | apply Kd.R_drewN | apply Kd.R_drew)); exact HO103.out) gb107 (Nat.le_of_eq hg.symm)) hb); have n1_ := Aside0.mk (below_step (by repeat (first | (with_reducible first | exact HB.out | apply below_alloc | apply pw_below_drewN | apply below_drew1) | exact HB.out)) hb); have n2_ := Aside0.mk (hbox); have n3_ := Aside0.mk ((by rw [hg]; exact (below_size (by repeat (first | (with_reducible first | exact HB.out | apply below_alloc | apply pw_below_drewN | apply below_drew1) | exact HB.out))) : w.heap.size ≤ gb107)); have n4_ := Aside0.mk ((by rw [hg]; exact (below_size (by repeat (first | (with_reducible first | exact HB.out | apply below_alloc | apply pw_below_drewN | apply below_drew1) | exact HB.out))) : w.heap.size ≤ gb107)); clear HO103; clear HB; have HO103 := n0_; have HB := n1_; have BK107 := n2_; have GW107 := n3_; have GE107 := n4_; clear n0_ n1_ n2_ n3_ n4_; clear hb hbox hg; have hcz7_0 : w6.cell? ⟨gb107, 0, none⟩ = some (.int .i64 0) := (blk_cell BK107.out 0).trans rfl; have hcz7_1 : w6.cell? ⟨gb107, 1, none⟩ = some (.string (⟨#[]⟩ : ByteArray)) := (blk_cell BK107.out 1).trans rfl; have hfz7_0 := blk_frozen BK107.out 0; have hfz7_1 := blk_frozen BK107.out 1) | ((with_reducible refine gate_builtin (b := .append) (xs := #[.tmp 17, .tmp 19]) rfl ?_); at_builtin; refine Kd.R_append k54 (w0 := w) w.heap.size rfl (.tmp 17) (.tmp 19) 61 54 (.agg #[(.int .i64 0), (.string ⟨#[]⟩)]) 24 rfl Try.underlying61 info54 rfl (by decide) (by omega) v102 t101 (⟨t104, t105⟩ : S54) [.int .i64 t104, .string t105] (fun k_ => k_ ≠ gb107) (fun _ => False) rfl (by first | (go_simp; done) | (go_simp; rfl)) ?aP (fun _ hk => hk.elim) ?aF ?aO ?aB ?aS ?aL ?_; (case aP => exact k54_mkM _ _ _ (⟨t104, t105⟩ : S54)); (case aB => exact (by repeat (first | (with_reducible first | exact HB.out | apply below_alloc | apply pw_below_drewN | apply below_drew1 | refine below_set ?_ GE107.out) | exact HB.out))); (case aF => exact (fun k_ hk => Kd.freshB (g := gb107) (o := .cells #[.int .i64 t104, .string t105] 54 (0, 0)) (by (with_reducible repeat (first | refine blk_drewN ?_ _ | refine blk_drew ?_ | refine blk_alloc ?_ _)); refine blk_put (cs := #[.int .i64 t104, .string (⟨#[]⟩ : ByteArray)]) ?_ 1 _ rfl; (with_reducible repeat (first | refine blk_drewN ?_ _ | refine blk_drew ?_ | refine blk_alloc ?_ _)); refine blk_put (cs := #[.int .i64 0, .string (⟨#[]⟩ : ByteArray)]) ?_ 0 _ rfl; (with_reducible repeat (first | refine blk_drewN ?_ _ | refine blk_drew ?_ | refine blk_alloc ?_ _)); exact BK107.out) k_ hk)); (case aO => exact (by (with_reducible repeat (first | apply Kd.R_alloc | apply Kd.R_drewN | apply Kd.R_drew)); exact Kd.R_mono (Kd.R_far (p := ⟨gb107, 1, none⟩) (Kd.R_far (p := ⟨gb107, 0, none⟩) (Kd.R_mono HO103.out (fun k_ hk => (⟨hk, hk.2⟩ : _ ∧ k_ ≠ gb107))) (fun _ hk => hk.2) (.int .i64 t104)) (fun _ hk => hk.2) (.string t105)) (fun _ hk => hk.1.2))); (case aS => exact (below_size (by repeat (first | (with_reducible first | exact HB.out | apply below_alloc | apply pw_below_drewN | apply below_drew1 | refine below_set ?_ GE107.out) | exact HB.out)))); (case aL => have := LMc4.out; omega); intro v109 w8 ho hb hg hat; rw [← Ny108.out] at ho; have n0_ := Aside0.mk (blk_grown (g := gb107) (o := .cells #[.int .i64 t104, .string t105] 54 (0, 0)) (by (with_reducible repeat (first | refine blk_drewN ?_ _ | refine blk_drew ?_ | refine blk_alloc ?_ _)); refine blk_put (cs := #[.int .i64 t104, .string (⟨#[]⟩ : ByteArray)]) ?_ 1 _ rfl; (with_reducible repeat (first | refine blk_drewN ?_ _ | refine blk_drew ?_ | refine blk_alloc ?_ _)); refine blk_put (cs := #[.int .i64 0, .string (⟨#[]⟩ : ByteArray)]) ?_ 0 _ rfl; (with_reducible repeat (first | refine blk_drewN ?_ _ | refine blk_drew ?_ | refine blk_alloc ?_ _)); exact BK107.out) hg (Kd.R_away HO103.out (fun _ hk => hk.2))); have n1_ := Aside0.mk (hb); have n2_ := Aside0.mk (ho); clear BK107; clear HB; clear HO103; have BK107 := n0_; have HB := n1_; have HO110 := n2_; clear n0_ n1_ n2_; clear ho hb hg hat; obtain ⟨Ao9, co9, eo9⟩ := Kd.R_slice HO110.out; subst eo9))
      go_loopg [6, 22] k (fun kq v6 v22 w' => ∃ (x6_1 : List ByteArray) (x22_1 : Int), v22 = .int .i64 x22_1 ∧ Aside0 (kind_Classes.l0 kq x6_1 y108 (y108.length : Int) x22_1 = some r) ∧ Aside0 (kq ≤ k) ∧ Aside0 (Kd.R Kd.string 9 w' w.heap.size (fun _ => True) v6 x6_1) ∧ Aside0 (Kd.R k54 54 w' w.heap.size (fun k_ => k_ ≠ gb107) (.slice Ao9 y108.length co9) y108) ∧ Aside0 (w'.heap[gb107]? = some (.cells #[.int .i64 t104, .string t105] 54 (0, 0))) ∧ Aside0 (Below w.heap.size w w'))
      case atStart => exact ⟨(([] : List ByteArray)), (0), (by first | rfl | (simp; done) | (simp [*]; done)), H', ⟨Nat.le_refl _⟩, ⟨by first | exact Kd.R_nil _ _ _ _ _ | exact Kd.N_nil _ _ _ _ _ | exact Kd.V_nil _ _ _ _ _ | exact Kd.Q_nil _ _ _ _ _ | exact Kd.S_nil _ _ _ _ _⟩, ⟨by (with_reducible repeat (first | apply Kd.R_alloc | apply Kd.R_drewN | apply Kd.R_drew)); exact HO110.out⟩, ⟨by (with_reducible repeat (first | refine blk_drewN ?_ _ | refine blk_drew ?_ | refine blk_alloc ?_ _)); exact BK107.out⟩, ⟨by repeat (first | (with_reducible first | exact HB.out | apply below_alloc | apply pw_below_drewN | apply below_drew1 | refine below_set ?_ GE107.out) | exact HB.out)⟩⟩
      case round =>
        clear H'
        try clear p2
        try clear c3
        try clear c3b0
        try clear c3b1
        try clear c4
        try clear c5
        try clear hcz7_0
        try clear hcz7_1
        try clear hfz7_0
        try clear hfz7_1
        obtain ⟨x6_1, x22_1, rfl, HA, HK1, HO_6, HO_20, BK107, HB⟩ := hrel
        cases gk with
        | zero => exact absurd HA.out (by simp [kind_Classes.l0])
        | succ k1 =>
          have H := HA.out
          clear HA
          simp only [kind_Classes.l0] at H
          by_cases c10 : x22_1 < (y108.length : Int)
          · rw [if_pos c10] at H
            have c10b0 : decide (x22_1 < (y108.length : Int)) = true := decide_eq_true c10
            clear c10
            by_cases c11 : 0 ≤ x22_1
            · rw [if_pos c11] at H
              have c11b0 : decide (0 ≤ x22_1) = true := decide_eq_true c11
              clear c11
              by_cases c12 : x22_1 < (y108.length : Int)
              · rw [if_pos c12] at H
                have c12b0 : decide (x22_1 < (y108.length : Int)) = true := decide_eq_true c12
                clear c12
                by_cases c13 : ((rd_T54 y108 x22_1).f1).toList = ([] : List UInt8)
                · rw [if_pos c13] at H
                  have c13b0 : (((rd_T54 y108 x22_1).f1).toList == ([] : List UInt8)) = true := beq_iff_eq.mpr c13
                  have c13b1 : (((rd_T54 y108 x22_1).f1).toList != ([] : List UInt8)) = false := bne_eq_false_iff_eq.mpr c13
                  clear c13
                  have H' := Aside0.mk H
                  clear H
                  have p111 : 0 ≤ (x22_1 : Int) := of_decide_eq_true (by first | (with_reducible assumption) | assumption)
                  have q111 : x22_1 < (y108.length : Int) := of_decide_eq_true (by first | (with_reducible assumption) | assumption)
                  obtain ⟨ad111, e111, hx111_0, hx111_1⟩ := at_T54 (Kd.R_reads' HO_20.out).2.2 x22_1 p111 q111
                  cases e111
                  replace p111 := eq_true p111
                  replace q111 := eq_true q111
                  go_wp2_with (first | ((with_reducible refine gate_dst (N := 8) rfl ?_); refine box_event ?hg (N := 8) ?hd (cs := #[.int .i64 0, .string (⟨#[]⟩ : ByteArray)]) (t := 54) ?hr ?_; (case hd => rfl); (case hg => rfl); (case hr => first | (go_simp; done) | (go_simp; rfl)); intro gb112 hg w14 hbox hb; have n0_ := Aside0.mk (Kd.R_below (by (with_reducible repeat (first | apply Kd.R_alloc | apply Kd.R_drewN | apply Kd.R_drew)); exact HO_6.out) hb); have n1_ := Aside0.mk (Kd.R_below (Kd.R_elderB (by (with_reducible repeat (first | apply Kd.R_alloc | apply Kd.R_drewN | apply Kd.R_drew)); exact HO_20.out) gb112 (Nat.le_of_eq hg.symm)) hb); have n2_ := Aside0.mk (blk_below (g := gb107) (o := .cells #[.int .i64 t104, .string t105] 54 (0, 0)) (by (with_reducible repeat (first | refine blk_drewN ?_ _ | refine blk_drew ?_ | refine blk_alloc ?_ _)); exact BK107.out) hb); have n3_ := Aside0.mk (below_step (by repeat (first | (with_reducible first | exact HB.out | apply below_alloc | apply pw_below_drewN | apply below_drew1 | refine below_set ?_ GE107.out) | exact HB.out)) hb); have n4_ := Aside0.mk (hbox); have n5_ := Aside0.mk ((by rw [hg]; exact (below_size (by repeat (first | (with_reducible first | exact HB.out | apply below_alloc | apply pw_below_drewN | apply below_drew1 | refine below_set ?_ GE107.out) | exact HB.out))) : w.heap.size ≤ gb112)); have n6_ := Aside0.mk ((by rw [hg]; exact (below_size (by repeat (first | (with_reducible first | exact HB.out | apply below_alloc | apply pw_below_drewN | apply below_drew1 | refine below_set ?_ GE107.out) | exact HB.out))) : w.heap.size ≤ gb112)); have n7_ := Aside0.mk ((by rw [hg]; exact Nat.ne_of_lt (blk_lt (g := gb107) (o := .cells #[.int .i64 t104, .string t105] 54 (0, 0)) (by (with_reducible repeat (first | refine blk_drewN ?_ _ | refine blk_drew ?_ | refine blk_alloc ?_ _)); exact BK107.out)) : gb107 ≠ gb112)); have n8_ := Aside0.mk ((by rw [hg]; exact Nat.ne_of_gt (blk_lt (g := gb107) (o := .cells #[.int .i64 t104, .string t105] 54 (0, 0)) (by (with_reducible repeat (first | refine blk_drewN ?_ _ | refine blk_drew ?_ | refine blk_alloc ?_ _)); exact BK107.out)) : gb112 ≠ gb107)); clear HO_6; clear HO_20; clear BK107; clear HB; have HO_6 := n0_; have HO_20 := n1_; have BK107 := n2_; have HB := n3_; have BK112 := n4_; have GW112 := n5_; have GE112 := n6_; have NB107_112 := n7_; have NB112_107 := n8_; clear n0_ n1_ n2_ n3_ n4_ n5_ n6_ n7_ n8_; clear hb hbox hg; have hnb15 := NB112_107.out; have hnc15 := NB107_112.out; have hcz16_0 : w14.cell? ⟨gb112, 0, none⟩ = some (.int .i64 0) := (blk_cell BK112.out 0).trans rfl; have hcz16_1 : w14.cell? ⟨gb112, 1, none⟩ = some (.string (⟨#[]⟩ : ByteArray)) := (blk_cell BK112.out 1).trans rfl; have hfz16_0 := blk_frozen BK112.out 0; have hfz16_1 := blk_frozen BK112.out 1))
                  go_roundg k1
                  case measure => have := HK1.out; omega
                  case rel => exact ⟨(x6_1), (wrap64 (x22_1 + 1)), (by first | rfl | (simp; done) | (simp [*]; done)), H', ⟨by have := HK1.out; omega⟩, ⟨by (with_reducible repeat (first | apply Kd.R_alloc | apply Kd.R_drewN | apply Kd.R_drew)); exact Kd.R_mono (Kd.R_far (p := ⟨gb112, 1, none⟩) (Kd.R_far (p := ⟨gb112, 0, none⟩) (Kd.R_types HO_6.out BK112.out (by decide)) (fun _ hk => hk.2) (.int .i64 ((rd_T54 y108 x22_1).f0))) (fun _ hk => hk.2) (.string ((rd_T54 y108 x22_1).f1))) (fun _ hk => trivial)⟩, ⟨by (with_reducible repeat (first | apply Kd.R_alloc | apply Kd.R_drewN | apply Kd.R_drew)); exact Kd.R_mono (Kd.R_far (p := ⟨gb112, 1, none⟩) (Kd.R_far (p := ⟨gb112, 0, none⟩) (Kd.R_mono HO_20.out (fun k_ hk => (⟨hk, hk.2⟩ : _ ∧ k_ ≠ gb112))) (fun _ hk => hk.2) (.int .i64 ((rd_T54 y108 x22_1).f0))) (fun _ hk => hk.2) (.string ((rd_T54 y108 x22_1).f1))) (fun _ hk => hk.1.1)⟩, ⟨by (with_reducible repeat (first | refine blk_drewN ?_ _ | refine blk_drew ?_ | refine blk_alloc ?_ _)); refine blk_far ?_ NB107_112.out _; (with_reducible repeat (first | refine blk_drewN ?_ _ | refine blk_drew ?_ | refine blk_alloc ?_ _)); refine blk_far ?_ NB107_112.out _; (with_reducible repeat (first | refine blk_drewN ?_ _ | refine blk_drew ?_ | refine blk_alloc ?_ _)); exact BK107.out⟩, ⟨by repeat (first | (with_reducible first | exact HB.out | apply below_alloc | apply pw_below_drewN | apply below_drew1 | refine below_set ?_ GE107.out | refine below_set ?_ GE112.out) | exact HB.out)⟩⟩
                · rw [if_neg c13] at H
                  have c13b0 : (((rd_T54 y108 x22_1).f1).toList == ([] : List UInt8)) = false := beq_eq_false_iff_ne.mpr c13
                  have c13b1 : (((rd_T54 y108 x22_1).f1).toList != ([] : List UInt8)) = true := bne_iff_ne.mpr c13
                  by_cases c17 : x6_1.length < 8796093022208
                  · rw [if_pos c17] at H
                    have LMc17 := Aside0.mk c17
                    clear c17
                    obtain ⟨y113, hy113⟩ : ∃ y_ : List ByteArray, y_ = (x6_1 ++ [(rd_T54 y108 x22_1).f1]) := ⟨_, rfl⟩
                    replace H : (kind_Classes.l0 k1 y113 y108 (y108.length : Int) (wrap64 (x22_1 + 1))) = some r := by first | (rw [hy113]; with_reducible exact H) | (have H2_ := (Option.bind_some _ _).symm.trans H; rw [hy113]; with_reducible exact H2_) | (have H2_ := (Option.bind_some _ _).symm.trans H; with_reducible exact H2_) | with_reducible exact H | (rw [hy113]; exact H) | exact H
                    have Ny113 := Aside0.mk hy113
                    clear hy113
                    have H' := Aside0.mk H
                    clear H
                    have p111 : 0 ≤ (x22_1 : Int) := of_decide_eq_true (by first | (with_reducible assumption) | assumption)
                    have q111 : x22_1 < (y108.length : Int) := of_decide_eq_true (by first | (with_reducible assumption) | assumption)
                    obtain ⟨ad111, e111, hx111_0, hx111_1⟩ := at_T54 (Kd.R_reads' HO_20.out).2.2 x22_1 p111 q111
                    cases e111
                    replace p111 := eq_true p111
                    replace q111 := eq_true q111
                    go_wp2_with (first | ((with_reducible refine gate_dst (N := 8) rfl ?_); refine box_event ?hg (N := 8) ?hd (cs := #[.int .i64 0, .string (⟨#[]⟩ : ByteArray)]) (t := 54) ?hr ?_; (case hd => rfl); (case hg => rfl); (case hr => first | (go_simp; done) | (go_simp; rfl)); intro gb112 hg w18 hbox hb; have n0_ := Aside0.mk (Kd.R_below (by (with_reducible repeat (first | apply Kd.R_alloc | apply Kd.R_drewN | apply Kd.R_drew)); exact HO_6.out) hb); have n1_ := Aside0.mk (Kd.R_below (Kd.R_elderB (by (with_reducible repeat (first | apply Kd.R_alloc | apply Kd.R_drewN | apply Kd.R_drew)); exact HO_20.out) gb112 (Nat.le_of_eq hg.symm)) hb); have n2_ := Aside0.mk (blk_below (g := gb107) (o := .cells #[.int .i64 t104, .string t105] 54 (0, 0)) (by (with_reducible repeat (first | refine blk_drewN ?_ _ | refine blk_drew ?_ | refine blk_alloc ?_ _)); exact BK107.out) hb); have n3_ := Aside0.mk (below_step (by repeat (first | (with_reducible first | exact HB.out | apply below_alloc | apply pw_below_drewN | apply below_drew1 | refine below_set ?_ GE107.out) | exact HB.out)) hb); have n4_ := Aside0.mk (hbox); have n5_ := Aside0.mk ((by rw [hg]; exact (below_size (by repeat (first | (with_reducible first | exact HB.out | apply below_alloc | apply pw_below_drewN | apply below_drew1 | refine below_set ?_ GE107.out) | exact HB.out))) : w.heap.size ≤ gb112)); have n6_ := Aside0.mk ((by rw [hg]; exact (below_size (by repeat (first | (with_reducible first | exact HB.out | apply below_alloc | apply pw_below_drewN | apply below_drew1 | refine below_set ?_ GE107.out) | exact HB.out))) : w.heap.size ≤ gb112)); have n7_ := Aside0.mk ((by rw [hg]; exact Nat.ne_of_lt (blk_lt (g := gb107) (o := .cells #[.int .i64 t104, .string t105] 54 (0, 0)) (by (with_reducible repeat (first | refine blk_drewN ?_ _ | refine blk_drew ?_ | refine blk_alloc ?_ _)); exact BK107.out)) : gb107 ≠ gb112)); have n8_ := Aside0.mk ((by rw [hg]; exact Nat.ne_of_gt (blk_lt (g := gb107) (o := .cells #[.int .i64 t104, .string t105] 54 (0, 0)) (by (with_reducible repeat (first | refine blk_drewN ?_ _ | refine blk_drew ?_ | refine blk_alloc ?_ _)); exact BK107.out)) : gb112 ≠ gb107)); clear HO_6; clear HO_20; clear BK107; clear HB; have HO_6 := n0_; have HO_20 := n1_; have BK107 := n2_; have HB := n3_; have BK112 := n4_; have GW112 := n5_; have GE112 := n6_; have NB107_112 := n7_; have NB112_107 := n8_; clear n0_ n1_ n2_ n3_ n4_ n5_ n6_ n7_ n8_; clear hb hbox hg; have hnb19 := NB112_107.out; have hnc19 := NB107_112.out; have hcz20_0 : w18.cell? ⟨gb112, 0, none⟩ = some (.int .i64 0) := (blk_cell BK112.out 0).trans rfl; have hcz20_1 : w18.cell? ⟨gb112, 1, none⟩ = some (.string (⟨#[]⟩ : ByteArray)) := (blk_cell BK112.out 1).trans rfl; have hfz20_0 := blk_frozen BK112.out 0; have hfz20_1 := blk_frozen BK112.out 1) | ((with_reducible refine gate_builtin (b := .append) (xs := #[.tmp 29, .tmp 32]) rfl ?_); at_builtin; refine Kd.R_append Kd.string (w0 := w) w.heap.size rfl (.tmp 29) (.tmp 32) 23 9 (.string ⟨#[]⟩) 16 rfl Try.underlying23 info9 rfl (by decide) (by omega) u6 x6_1 ((rd_T54 y108 x22_1).f1) [.string ((rd_T54 y108 x22_1).f1)] (fun _ => True) (fun _ => False) rfl (by first | (go_simp; done) | (go_simp; rfl)) ?aP (fun _ hk => hk.elim) ?aF ?aO ?aB ?aS ?aL ?_; (case aP => exact rfl); (case aB => exact (by repeat (first | (with_reducible first | exact HB.out | apply below_alloc | apply pw_below_drewN | apply below_drew1 | refine below_set ?_ GE107.out | refine below_set ?_ GE112.out) | exact HB.out))); (case aF => exact (fun _ _ => trivial)); (case aO => exact (by (with_reducible repeat (first | apply Kd.R_alloc | apply Kd.R_drewN | apply Kd.R_drew)); exact Kd.R_mono (Kd.R_far (p := ⟨gb112, 1, none⟩) (Kd.R_far (p := ⟨gb112, 0, none⟩) (Kd.R_types HO_6.out BK112.out (by decide)) (fun _ hk => hk.2) (.int .i64 ((rd_T54 y108 x22_1).f0))) (fun _ hk => hk.2) (.string ((rd_T54 y108 x22_1).f1))) (fun _ hk => trivial))); (case aS => exact (below_size (by repeat (first | (with_reducible first | exact HB.out | apply below_alloc | apply pw_below_drewN | apply below_drew1 | refine below_set ?_ GE107.out | refine below_set ?_ GE112.out) | exact HB.out)))); (case aL => have := LMc17.out; omega); intro v114 w21 ho hb hg hat; rw [← Ny113.out] at ho; have n0_ := Aside0.mk (Kd.R_over' (by (with_reducible repeat (first | apply Kd.R_alloc | apply Kd.R_drewN | apply Kd.R_drew)); exact (Kd.R_mono (Kd.R_far (p := ⟨gb112, 1, none⟩) (Kd.R_far (p := ⟨gb112, 0, none⟩) (Kd.R_mono HO_20.out (fun k_ hk => (⟨hk, hk.2⟩ : _ ∧ k_ ≠ gb112))) (fun _ hk => hk.2) (.int .i64 ((rd_T54 y108 x22_1).f0))) (fun _ hk => hk.2) (.string ((rd_T54 y108 x22_1).f1))) (fun _ h_ => h_.1))) (Kd.R_typed (by (with_reducible repeat (first | apply Kd.R_alloc | apply Kd.R_drewN | apply Kd.R_drew)); exact (Kd.R_mono (Kd.R_far (p := ⟨gb112, 1, none⟩) (Kd.R_far (p := ⟨gb112, 0, none⟩) (Kd.R_types HO_6.out BK112.out (by decide)) (fun _ hk => hk.2) (.int .i64 ((rd_T54 y108 x22_1).f0))) (fun _ hk => hk.2) (.string ((rd_T54 y108 x22_1).f1))) (fun _ h_ => h_.1)))) (by decide) hg); have n1_ := Aside0.mk (blk_grown (g := gb107) (o := .cells #[.int .i64 t104, .string t105] 54 (0, 0)) (by (with_reducible repeat (first | refine blk_drewN ?_ _ | refine blk_drew ?_ | refine blk_alloc ?_ _)); refine blk_far ?_ NB107_112.out _; (with_reducible repeat (first | refine blk_drewN ?_ _ | refine blk_drew ?_ | refine blk_alloc ?_ _)); refine blk_far ?_ NB107_112.out _; (with_reducible repeat (first | refine blk_drewN ?_ _ | refine blk_drew ?_ | refine blk_alloc ?_ _)); exact BK107.out) hg (Kd.R_ne HO_6.out BK107.out (by decide))); have n2_ := Aside0.mk (blk_grown (g := gb112) (o := .cells #[.int .i64 ((rd_T54 y108 x22_1).f0), .string ((rd_T54 y108 x22_1).f1)] 54 (0, 0)) (by (with_reducible repeat (first | refine blk_drewN ?_ _ | refine blk_drew ?_ | refine blk_alloc ?_ _)); refine blk_put (cs := #[.int .i64 ((rd_T54 y108 x22_1).f0), .string (⟨#[]⟩ : ByteArray)]) ?_ 1 _ rfl; (with_reducible repeat (first | refine blk_drewN ?_ _ | refine blk_drew ?_ | refine blk_alloc ?_ _)); refine blk_put (cs := #[.int .i64 0, .string (⟨#[]⟩ : ByteArray)]) ?_ 0 _ rfl; (with_reducible repeat (first | refine blk_drewN ?_ _ | refine blk_drew ?_ | refine blk_alloc ?_ _)); exact BK112.out) hg (Kd.R_ne HO_6.out BK112.out (by decide))); have n3_ := Aside0.mk (hb); have n4_ := Aside0.mk (ho); clear HO_20; clear BK107; clear BK112; clear HB; clear HO_6; have HO_20 := n0_; have BK107 := n1_; have BK112 := n2_; have HB := n3_; have HO115 := n4_; clear n0_ n1_ n2_ n3_ n4_; clear ho hb hg hat))
                    go_roundg k1
                    case measure => have := HK1.out; omega
                    case rel => exact ⟨(y113), (wrap64 (x22_1 + 1)), (by first | rfl | (simp; done) | (simp [*]; done)), H', ⟨by have := HK1.out; omega⟩, ⟨by (with_reducible repeat (first | apply Kd.R_alloc | apply Kd.R_drewN | apply Kd.R_drew)); exact HO115.out⟩, ⟨by (with_reducible repeat (first | apply Kd.R_alloc | apply Kd.R_drewN | apply Kd.R_drew)); exact Kd.R_mono HO_20.out (fun _ hk => hk.1)⟩, ⟨by (with_reducible repeat (first | refine blk_drewN ?_ _ | refine blk_drew ?_ | refine blk_alloc ?_ _)); exact BK107.out⟩, ⟨by repeat (first | (with_reducible first | exact HB.out | apply below_alloc | apply pw_below_drewN | apply below_drew1 | refine below_set ?_ GE107.out | refine below_set ?_ GE112.out) | exact HB.out)⟩⟩
                  · rw [if_neg c17] at H
                    exact absurd H (by simp)
              · rw [if_neg c12] at H
                exact absurd H (by simp)
            · rw [if_neg c11] at H
              exact absurd H (by simp)
          · rw [if_neg c10] at H
            have c10b0 : decide (x22_1 < (y108.length : Int)) = false := decide_eq_false c10
            clear c10
            obtain rfl := Option.some.inj H
            go_wp2
            go_ret
            exact ⟨_, by first | rfl | (simp [errW_none, errW_some] <;> rfl) | (simp [*, errW_none, errW_some] <;> rfl), by (with_reducible repeat (first | apply Kd.R_alloc | apply Kd.R_drewN | apply Kd.R_drew)); exact HO_6.out, by repeat (first | (with_reducible first | exact HB.out | apply below_alloc | apply pw_below_drewN | apply below_drew1 | refine below_set ?_ GE107.out) | exact HB.out)⟩
    · rw [if_neg c4] at H
      exact absurd H (by simp)
  · rw [if_neg c3] at H
    have c3b0 : (t106 == 0) = false := beq_eq_false_iff_ne.mpr c3
    have c3b1 : (t106 != 0) = true := bne_iff_ne.mpr c3
    obtain rfl := Option.some.inj H
    go_enter Try.func51, Try.ntmps51
    go_wp2_with (first | ((with_reducible refine gate_callee (f := 42) rfl ?_); refine goesL_ (some 11) rfl rfl Try.func42 (by kernel_rfl) rfl #[.string a0] rfl (by (try simp only [List.map_toArray, List.map_cons, List.map_nil]); first | done | rfl | (simp only [List.length_drop, List.length_take]; rfl)) ?_; (with_reducible refine (kind_Split.calls a0 t101 t104 t105 t106 _ ?side1 A2.out).mono ?_); (case side1 => exact MaxL.below HGMaxL.out (by repeat (first | (with_reducible first | exact HB.out | apply below_alloc | apply pw_below_drewN | apply below_drew1) | exact HB.out))); rintro e w22 ⟨v102, rfl, ho0, hb⟩; refine ⟨_, rfl, ?_⟩; have n0_ := Aside0.mk (Kd.R_lower ho0 (below_size (by repeat (first | (with_reducible first | exact HB.out | apply below_alloc | apply pw_below_drewN | apply below_drew1) | exact HB.out)))); have n1_ := Aside0.mk (below_step (by repeat (first | (with_reducible first | exact HB.out | apply below_alloc | apply pw_below_drewN | apply below_drew1) | exact HB.out)) hb); clear HB; have HO103 := n0_; have HB := n1_; clear n0_ n1_; (try clear hb); (try clear hb2); (try clear hk); (try clear hi); (try clear ho0)) | ((with_reducible refine gate_dst (N := 4) rfl ?_); refine box_event ?hg (N := 4) ?hd (cs := #[.int .i64 0, .string (⟨#[]⟩ : ByteArray)]) (t := 54) ?hr ?_; (case hd => rfl); (case hg => rfl); (case hr => first | (go_simp; done) | (go_simp; rfl)); intro gb107 hg w23 hbox hb; have n0_ := Aside0.mk (Kd.R_below (Kd.R_elderB (by (with_reducible repeat (first | apply Kd.R_alloc | apply Kd.R_drewN | apply Kd.R_drew)); exact HO103.out) gb107 (Nat.le_of_eq hg.symm)) hb); have n1_ := Aside0.mk (below_step (by repeat (first | (with_reducible first | exact HB.out | apply below_alloc | apply pw_below_drewN | apply below_drew1) | exact HB.out)) hb); have n2_ := Aside0.mk (hbox); have n3_ := Aside0.mk ((by rw [hg]; exact (below_size (by repeat (first | (with_reducible first | exact HB.out | apply below_alloc | apply pw_below_drewN | apply below_drew1) | exact HB.out))) : w.heap.size ≤ gb107)); have n4_ := Aside0.mk ((by rw [hg]; exact (below_size (by repeat (first | (with_reducible first | exact HB.out | apply below_alloc | apply pw_below_drewN | apply below_drew1) | exact HB.out))) : w.heap.size ≤ gb107)); clear HO103; clear HB; have HO103 := n0_; have HB := n1_; have BK107 := n2_; have GW107 := n3_; have GE107 := n4_; clear n0_ n1_ n2_ n3_ n4_; clear hb hbox hg; have hcz24_0 : w23.cell? ⟨gb107, 0, none⟩ = some (.int .i64 0) := (blk_cell BK107.out 0).trans rfl; have hcz24_1 : w23.cell? ⟨gb107, 1, none⟩ = some (.string (⟨#[]⟩ : ByteArray)) := (blk_cell BK107.out 1).trans rfl; have hfz24_0 := blk_frozen BK107.out 0; have hfz24_1 := blk_frozen BK107.out 1))
    go_ret
    exact ⟨_, by first | rfl | (simp [errW_none, errW_some] <;> rfl) | (simp [*, errW_none, errW_some] <;> rfl), by first | exact Kd.R_nil _ _ _ _ _ | exact Kd.N_nil _ _ _ _ _ | exact Kd.V_nil _ _ _ _ _ | exact Kd.Q_nil _ _ _ _ _ | exact Kd.S_nil _ _ _ _ _, by repeat (first | (with_reducible first | exact HB.out | apply below_alloc | apply pw_below_drewN | apply below_drew1 | refine below_set ?_ GE107.out) | exact HB.out)⟩

end Go.Proofs.Ytcbakmojhicahaa.Q12
end

section
-- Written by this session's program layer.py (the kit's print, turned), not by hand.
namespace Go.Proofs.Ytcbakmojhicahaa.Q12
open Go.RowKit Go.Proofs.YtcbakmojhicahaaW.PrintWords Go.Proofs.YtcbakmojhicahaaW.PrintLast Go.Proofs.YtcbakmojhicahaaW.PrintMore Go.Proofs.Ytcbakmojhicahaa.Hand
attribute [local go_sem] max2_int min2_int max_two min_two max_three min_three max_four min_four   -- for this text's walks alone
set_option linter.unusedVariables false
set_option linter.unusedSimpArgs false

end Go.Proofs.Ytcbakmojhicahaa.Q12
end

section
namespace Go.Proofs.Ytcbakmojhicahaa.Hand
open Go.RowKit Go.Shelf Go.Proofs.YtcbakmojhicahaaW.PrintWords Go.Proofs.YtcbakmojhicahaaW.PrintLast Go.Proofs.YtcbakmojhicahaaW.PrintMore
set_option linter.unusedVariables false
set_option linter.unusedSimpArgs false

theorem classes_loop (xs : List (S54)) (hl : xs.length ≤ 9) : ∀ (d i k : Nat) (acc : List ByteArray), xs.length - i = d → i ≤ xs.length → d < k → acc.length ≤ i →
    Q12.kind_Classes.l0 k acc xs (xs.length : Int) (i : Int) = some (acc ++ ((((xs.drop i).map ofS).map (·.2)).filter (fun c => !c.isEmpty)).map lb) := by
  intro d
  induction d with
  | zero =>
    intro i k acc hd hi hk _
    obtain ⟨k, rfl⟩ : ∃ j, k = j + 1 := ⟨k - 1, by omega⟩
    rw [Q12.kind_Classes.l0, if_neg (by omega), List.drop_of_length_le (by omega)]
    simp
  | succ d ih =>
    intro i k acc hd hi hk ha
    obtain ⟨k, rfl⟩ : ∃ j, k = j + 1 := ⟨k - 1, by omega⟩
    have h1 : i < xs.length := by omega
    have hw : wrap64 ((i : Int) + 1) = ((i + 1 : Nat) : Int) := by rw [wrap_in (by omega) (by omega)]; omega
    have hb : xs[i].f1.toList = bl xs[i].f1 := ByteArray.toList_eq _
    rw [Q12.kind_Classes.l0, if_pos (by omega), if_pos (by omega), if_pos (by omega), rdT_get xs i h1, hw, hb, List.drop_eq_getElem_cons h1, List.map_cons, List.map_cons]
    have hof : (ofS xs[i]).2 = bl xs[i].f1 := rfl
    rw [hof]
    by_cases he : bl xs[i].f1 = []
    · rw [if_pos he, ih (i + 1) k acc (by omega) (by omega) (by omega) (by omega), he]
      rfl
    · rw [if_neg he, if_pos (by omega), ih (i + 1) k _ (by omega) (by omega) (by omega) (by rw [List.length_append]; simp; omega), List.filter_cons, if_pos (by simpa using he), List.map_cons, lb_bl, List.append_assoc]
      rfl
theorem classes_eq (s : ByteArray) (hs : s.size ≤ 1048576) : Q12.kind_Classes.f 20 s = some ((classesD classL (bl s)).map lb) := by
  unfold Q12.kind_Classes.f classesD kind_Split.f
  rw [if_pos hs, Option.bind_some]
  obtain ⟨h1, h2, h3⟩ := split_short (bl s)
  obtain ⟨ps, t, e, hq⟩ : ∃ ps t e, splitD classL (bl s) = (ps, t, e) := ⟨_, _, _, rfl⟩
  rw [hq] at h1 h2 h3 ⊢
  simp only at h1 h2 h3 ⊢
  by_cases h0 : e = 0
  · rw [if_pos h0, if_pos h0, if_pos (by rw [List.length_map]; omega), Option.bind_some]
    have h := classes_loop (ps.map toS ++ [toS t]) (by rw [List.length_append, List.length_map]; simp; omega) _ 0 20 [] rfl (by omega) (by rw [List.length_append, List.length_map]; simp; omega) (by simp)
    rw [List.drop_zero, show ps.map toS ++ [toS t] = (ps ++ [t]).map toS from by simp, show ((ps ++ [t]).map toS).map ofS = ps ++ [t] from by rw [List.map_map, show (ofS ∘ toS) = id from by funext x; exact ofS_toS x, List.map_id]] at h
    simp only [List.nil_append] at h
    rw [show ps.map toS ++ [(⟨t.1, lb t.2⟩ : S54)] = (ps ++ [t]).map toS from by simp [toS]]
    exact h
  · rw [if_neg h0, if_neg h0]
    rfl
def kind_Classes.f (s : ByteArray) : Option (List ByteArray) := if s.size ≤ 1048576 then some ((classesD classL (bl s)).map lb) else none
theorem kind_Classes.calls (a0 : ByteArray) (r : List ByteArray) (w : World) (hGMaxL : MaxL w) (h : kind_Classes.f a0 = some r) :
    Calls Try.prog 51 #[.string a0] w fun e w' => ∃ v0_ : Value, e = .returned (v0_) ∧ Kd.R Kd.string 9 w' w.heap.size (fun _ => True) v0_ r ∧ Below w.heap.size w w' := by
  unfold kind_Classes.f at h
  split at h
  · rename_i hs
    exact Q12.kind_Classes.calls 20 a0 r w hGMaxL ((classes_eq a0 hs).trans h)
  · cases h
end Go.Proofs.Ytcbakmojhicahaa.Hand
end

section
-- Written by this session's program layer.py (the kit's print, turned), not by hand.
namespace Go.Proofs.Ytcbakmojhicahaa.PKindDescs
open Go.RowKit Go.Proofs.YtcbakmojhicahaaW.PrintWords Go.Proofs.YtcbakmojhicahaaW.PrintLast Go.Proofs.YtcbakmojhicahaaW.PrintMore Go.Proofs.Ytcbakmojhicahaa.Hand
attribute [local go_sem] max2_int min2_int max_two min_two max_three min_three max_four min_four   -- for this text's walks alone
set_option linter.unusedVariables false
set_option linter.unusedSimpArgs false



def errW : Option Int → Value
  | none => .nilIface
  | some c => .iface 0 (.int .i64 c)
theorem errW_none : errW none = .nilIface := rfl
theorem errW_some (c : Int) : errW (some c) = .iface 0 (.int .i64 c) := rfl

theorem info9 : (Try.prog.info? 9).map (fun i => (i.zero, i.size, i.bytes)) = some (some (.string ⟨#[]⟩), 1, 16) := by kernel_rfl
theorem info54 : (Try.prog.info? 54).map (fun i => (i.zero, i.size, i.bytes)) = some (some (.agg #[(.int .i64 0), (.string ⟨#[]⟩)]), 2, 24) := by kernel_rfl
-- the values' own types
end Go.Proofs.Ytcbakmojhicahaa.PKindDescs
end

section
-- Written by this session's program layer.py (the kit's print, turned), not by hand.
namespace Go.Proofs.Ytcbakmojhicahaa.PKindDescs
open Go.RowKit Go.Proofs.YtcbakmojhicahaaW.PrintWords Go.Proofs.YtcbakmojhicahaaW.PrintLast Go.Proofs.YtcbakmojhicahaaW.PrintMore Go.Proofs.Ytcbakmojhicahaa.Hand
attribute [local go_sem] max2_int min2_int max_two min_two max_three min_three max_four min_four   -- for this text's walks alone
set_option linter.unusedVariables false
set_option linter.unusedSimpArgs false

theorem eqA54 (d : Nat) (w : World) (x0 y0 : Int) (x1 y1 : ByteArray) :
    (Op.equalIn (d + 2) 54 (.agg #[.int .i64 x0, .string x1]) (.agg #[.int .i64 y0, .string y1])).run Try.prog w = .ok (x0 == y0 && (x1.toList == y1.toList)) w := by
  refine eqA_of Try.underlying54 (by kernel_rfl) ?_
  refine eqf_cons (by rfl) (by go_simp; rfl) (by go_simp; rfl) (by go_simp) ?_
  exact eqf_last (by rfl) (by go_simp; rfl) (by go_simp; rfl) (by go_simp)
end Go.Proofs.Ytcbakmojhicahaa.PKindDescs
end

section
-- Written by this session's program layer.py (the kit's print, turned), not by hand.
namespace Go.Proofs.Ytcbakmojhicahaa.PKindDescs
open Go.RowKit Go.Proofs.YtcbakmojhicahaaW.PrintWords Go.Proofs.YtcbakmojhicahaaW.PrintLast Go.Proofs.YtcbakmojhicahaaW.PrintMore Go.Proofs.Ytcbakmojhicahaa.Hand
attribute [local go_sem] max2_int min2_int max_two min_two max_three min_three max_four min_four   -- for this text's walks alone
set_option linter.unusedVariables false
set_option linter.unusedSimpArgs false

-- BY HAND: function 30 (secateurlaw06_live)

-- BY HAND: function 41 (kind_Desc)

-- BY HAND: function 42 (kind_Split)

-- BY HAND: function 43 (secateurref06_SameTypes)

-- BY HAND: function 48 (secateurref06_Desc)

-- BY HAND: function 49 (secateurref06_Split)

/-! ### secateurref01_SameTexts: function 50 -/
def secateurref01_SameTexts.l0 : Nat → List ByteArray → List ByteArray → Int → Option (Bool)
  | 0, _, _, _ => none
  | k + 1, x0, x1, x5 => if x5 < (x0.length : Int) then (if 0 ≤ x5 then (if x5 < (x1.length : Int) then (if (rdOf ByteArray.empty x0 x5).toList = (rdOf ByteArray.empty x1 x5).toList then (secateurref01_SameTexts.l0 k x0 x1 (wrap64 (x5 + 1))) else (some false)) else (none)) else (none)) else (some true)
def secateurref01_SameTexts.f (k : Nat) (l0 : List ByteArray) (l1 : List ByteArray) : Option (Bool) := if (l0.length : Int) = (l1.length : Int) then (secateurref01_SameTexts.l0 k l0 l1 0) else (some false)
theorem secateurref01_SameTexts.mono_l : ∀ k, (∀ y0 y1 y2, LeO (secateurref01_SameTexts.l0 k y0 y1 y2) (secateurref01_SameTexts.l0 (k + 1) y0 y1 y2))
  | 0 => fun _ _ _ r h => by simp [secateurref01_SameTexts.l0] at h
  | k + 1 => by
    have ih0 := secateurref01_SameTexts.mono_l k
    · intro y0 y1 y2
      unfold secateurref01_SameTexts.l0
      repeat' first
      | (with_reducible exact ih0 _ _ _)
      | (with_reducible exact LeO.refl _)
      | (with_reducible exact LeO.none _)
      | (with_reducible refine LeO.ite ?_ ?_)
      | (with_reducible refine LeO.bind ?_ (fun _ => ?_))
      | exact ih0 _ _ _
      | exact LeO.none _
      | refine LeO.ite ?_ ?_
      | refine LeO.bind ?_ (fun _ => ?_)
theorem secateurref01_SameTexts.mono : ∀ a0 a1 k, LeO (secateurref01_SameTexts.f k a0 a1) (secateurref01_SameTexts.f (k + 1) a0 a1) := by
  intro a0 a1 k
  have ih0 := secateurref01_SameTexts.mono_l k
  unfold secateurref01_SameTexts.f
  repeat' first
      | (with_reducible exact ih0 _ _ _)
      | (with_reducible exact LeO.refl _)
      | (with_reducible exact LeO.none _)
      | (with_reducible refine LeO.ite ?_ ?_)
      | (with_reducible refine LeO.bind ?_ (fun _ => ?_))
      | exact ih0 _ _ _
      | exact LeO.none _
      | refine LeO.ite ?_ ?_
      | refine LeO.bind ?_ (fun _ => ?_)
set_option maxHeartbeats 8000000 in
set_option maxRecDepth 100000 in
theorem secateurref01_SameTexts.calls (k : Nat) (A0 : Option Addr) (c0 : Nat) (l0 : List ByteArray) (A1 : Option Addr) (c1 : Nat) (l1 : List ByteArray) (r : Bool) (w : World) (hr0 : Kd.C Kd.string w A0 l0.length l0) (hc0 : l0.length ≤ c0) (hr1 : Kd.C Kd.string w A1 l1.length l1) (hc1 : l1.length ≤ c1) (h : secateurref01_SameTexts.f k l0 l1 = some r) :
    Calls Try.prog 50 #[.slice A0 l0.length c0, .slice A1 l1.length c1] w fun e w' => e = .returned (.bool r) ∧ Drawn0 w w' := by
  have HR0 := Aside0.mk hr0
  have HC0 := Aside0.mk hc0
  clear hr0 hc0
  have HR1 := Aside0.mk hr1
  have HC1 := Aside0.mk hc1
  clear hr1 hc1
  have H : (if (l0.length : Int) = (l1.length : Int) then (secateurref01_SameTexts.l0 k l0 l1 0) else (some false)) = some r := h
  clear h
  by_cases c3 : (l0.length : Int) = (l1.length : Int)
  · rw [if_pos c3] at H
    have c3b0 : ((l0.length : Int) == (l1.length : Int)) = true := beq_iff_eq.mpr c3
    have c3b1 : ((l0.length : Int) != (l1.length : Int)) = false := bne_eq_false_iff_eq.mpr c3
    have c3b2 : (l0.length == l1.length) = true := by first | simpa using c3 | (simp at c3 ⊢; omega)
    clear c3
    have H' := Aside0.mk H
    clear H
    go_enter Try.func50, Try.ntmps50
    go_wp2
    repeat (go_quiet (fail); try go_wp2)
    go_loopg [5] k (fun kq v5 w' => ∃ (x5_1 : Int), v5 = .int .i64 x5_1 ∧ Aside0 (secateurref01_SameTexts.l0 kq l0 l1 x5_1 = some r) ∧ Aside0 (kq ≤ k) ∧ Drawn0 w w')
    case atStart => exact ⟨(0), (by first | rfl | (simp; done) | (simp [*]; done)), H', ⟨Nat.le_refl _⟩, by repeat (first | exact Drawn0.refl _ | apply Drawn0.step)⟩
    case round =>
      clear H'
      try clear c1
      try clear p2
      try clear c3
      try clear c3b0
      try clear c3b1
      try clear c3b2
      obtain ⟨x5_1, rfl, HA, HK1, ⟨m1, rfl⟩⟩ := hrel
      cases gk with
      | zero => exact absurd HA.out (by simp [secateurref01_SameTexts.l0])
      | succ k1 =>
        have H := HA.out
        clear HA
        simp only [secateurref01_SameTexts.l0] at H
        by_cases c4 : x5_1 < (l0.length : Int)
        · rw [if_pos c4] at H
          have c4b0 : decide (x5_1 < (l0.length : Int)) = true := decide_eq_true c4
          clear c4
          by_cases c5 : 0 ≤ x5_1
          · rw [if_pos c5] at H
            have c5b0 : decide (0 ≤ x5_1) = true := decide_eq_true c5
            clear c5
            by_cases c6 : x5_1 < (l1.length : Int)
            · rw [if_pos c6] at H
              have c6b0 : decide (x5_1 < (l1.length : Int)) = true := decide_eq_true c6
              clear c6
              by_cases c7 : (rdOf ByteArray.empty l0 x5_1).toList = (rdOf ByteArray.empty l1 x5_1).toList
              · rw [if_pos c7] at H
                have c7b0 : ((rdOf ByteArray.empty l0 x5_1).toList == (rdOf ByteArray.empty l1 x5_1).toList) = true := beq_iff_eq.mpr c7
                have c7b1 : ((rdOf ByteArray.empty l0 x5_1).toList != (rdOf ByteArray.empty l1 x5_1).toList) = false := bne_eq_false_iff_eq.mpr c7
                clear c7
                have H' := Aside0.mk H
                clear H
                have p101 : 0 ≤ (x5_1 : Int) := of_decide_eq_true (by first | (with_reducible assumption) | assumption)
                have q101 : x5_1 < (l0.length : Int) := of_decide_eq_true (by first | (with_reducible assumption) | assumption)
                obtain ⟨ad101, e101, hx101_0⟩ := Kd.at_string HR0.out x5_1 p101 q101
                cases e101
                replace p101 := eq_true p101
                replace q101 := eq_true q101
                have p102 : 0 ≤ (x5_1 : Int) := of_decide_eq_true (by first | (with_reducible assumption) | assumption)
                have q102 : x5_1 < (l1.length : Int) := of_decide_eq_true (by first | (with_reducible assumption) | assumption)
                obtain ⟨ad102, e102, hx102_0⟩ := Kd.at_string HR1.out x5_1 p102 q102
                cases e102
                replace p102 := eq_true p102
                replace q102 := eq_true q102
                go_wp2
                repeat (go_quiet (fail); try go_wp2)
                go_roundg k1
                case measure => have := HK1.out; omega
                case rel => exact ⟨(wrap64 (x5_1 + 1)), (by first | rfl | (simp; done) | (simp [*]; done)), H', ⟨by have := HK1.out; omega⟩, by repeat (first | exact Drawn0.refl _ | apply Drawn0.step)⟩
              · rw [if_neg c7] at H
                have c7b0 : ((rdOf ByteArray.empty l0 x5_1).toList == (rdOf ByteArray.empty l1 x5_1).toList) = false := beq_eq_false_iff_ne.mpr c7
                have c7b1 : ((rdOf ByteArray.empty l0 x5_1).toList != (rdOf ByteArray.empty l1 x5_1).toList) = true := bne_iff_ne.mpr c7
                obtain rfl := Option.some.inj H
                have p101 : 0 ≤ (x5_1 : Int) := of_decide_eq_true (by first | (with_reducible assumption) | assumption)
                have q101 : x5_1 < (l0.length : Int) := of_decide_eq_true (by first | (with_reducible assumption) | assumption)
                obtain ⟨ad101, e101, hx101_0⟩ := Kd.at_string HR0.out x5_1 p101 q101
                cases e101
                replace p101 := eq_true p101
                replace q101 := eq_true q101
                have p102 : 0 ≤ (x5_1 : Int) := of_decide_eq_true (by first | (with_reducible assumption) | assumption)
                have q102 : x5_1 < (l1.length : Int) := of_decide_eq_true (by first | (with_reducible assumption) | assumption)
                obtain ⟨ad102, e102, hx102_0⟩ := Kd.at_string HR1.out x5_1 p102 q102
                cases e102
                replace p102 := eq_true p102
                replace q102 := eq_true q102
                go_wp2
                repeat (go_quiet (fail); try go_wp2)
                go_ret
                exact ⟨by first | rfl | (simp; done) | (simp [*]; done), by repeat (first | exact Drawn0.refl _ | apply Drawn0.step)⟩
            · rw [if_neg c6] at H
              exact absurd H (by simp)
          · rw [if_neg c5] at H
            exact absurd H (by simp)
        · rw [if_neg c4] at H
          have c4b0 : decide (x5_1 < (l0.length : Int)) = false := decide_eq_false c4
          clear c4
          obtain rfl := Option.some.inj H
          go_wp2
          repeat (go_quiet (fail); try go_wp2)
          go_ret
          exact ⟨by first | rfl | (simp; done) | (simp [*]; done), by repeat (first | exact Drawn0.refl _ | apply Drawn0.step)⟩
  · rw [if_neg c3] at H
    have c3b0 : ((l0.length : Int) == (l1.length : Int)) = false := beq_eq_false_iff_ne.mpr c3
    have c3b1 : ((l0.length : Int) != (l1.length : Int)) = true := bne_iff_ne.mpr c3
    have c3b2 : (l0.length == l1.length) = false := by first | simpa using c3 | (simp at c3 ⊢; omega)
    obtain rfl := Option.some.inj H
    go_enter Try.func50, Try.ntmps50
    go_wp2
    repeat (go_quiet (fail); try go_wp2)
    go_ret
    exact ⟨by first | rfl | (simp; done) | (simp [*]; done), by repeat (first | exact Drawn0.refl _ | apply Drawn0.step)⟩

-- BY HAND: function 51 (kind_Classes)

-- BY HAND: function 52 (secateurref06_Classes)

end Go.Proofs.Ytcbakmojhicahaa.PKindDescs
end

section
-- Written by this session's program layer.py (the kit's print, turned), not by hand.
namespace Go.Proofs.Ytcbakmojhicahaa.PKindDescs
open Go.RowKit Go.Proofs.YtcbakmojhicahaaW.PrintWords Go.Proofs.YtcbakmojhicahaaW.PrintLast Go.Proofs.YtcbakmojhicahaaW.PrintMore Go.Proofs.Ytcbakmojhicahaa.Hand
attribute [local go_sem] max2_int min2_int max_two min_two max_three min_three max_four min_four   -- for this text's walks alone
set_option linter.unusedVariables false
set_option linter.unusedSimpArgs false

attribute [local go_sem high] eqA54
/-! ### secateurlaw06_KindDescs: function 9 -/
def secateurlaw06_KindDescs.j0 : Nat → List (S54) → ByteArray → Bool → Option (Bool)
  | 0, _, _, _ => none
  | k + 1, x0, x1, x27 => if x27 = true then ((secateurlaw06_live.f).bind fun t103 => (some t103)) else (if 0 < (x0.length : Int) then (if 1 ≤ (x0.length : Int) then ((kind_Desc.f ((rd_T54 x0 0).f0) ((rd_T54 x0 0).f1) (x0.drop 1)).bind fun bt109 => ((secateurref06_Desc.f ((rd_T54 x0 0).f0) ((rd_T54 x0 0).f1) (x0.drop 1)).bind fun bt116 => ((kind_Split.f x1).bind fun bt118 => ((secateurref06_Split.f x1).bind fun bt125 => ((secateurlaw06_live.f).bind fun t132 => (if t132 = true then (if bt109.1.toList = bt116.1.toList then (if bt109.2 = bt116.2 then ((secateurref06_SameTypes.f bt118.1 bt125.1).bind fun t133 => (if t133 = true then (if (bt118.2.1 == bt125.2.1 && (bt118.2.2.1.toList == bt125.2.2.1.toList)) = true then (if bt118.2.2.2 = bt125.2.2.2 then ((kind_Classes.f x1).bind fun t134 => ((secateurref06_Classes.f x1).bind fun t137 => ((secateurref01_SameTexts.f k t134 t137).bind fun t140 => (some t140)))) else (some false)) else (some false)) else (some false))) else (some false)) else (some false)) else (some false))))))) else (none)) else (none))
def secateurlaw06_KindDescs.f (k : Nat) (l0 : List (S54)) (a1 : ByteArray) : Option (Bool) := if (l0.length : Int) = 0 then (secateurlaw06_KindDescs.j0 k l0 a1 true) else (if (l0.length : Int) > 40 then (secateurlaw06_KindDescs.j0 k l0 a1 true) else (secateurlaw06_KindDescs.j0 k l0 a1 (decide ((a1.size : Int) > 2000))))
theorem secateurlaw06_KindDescs.mono_l : ∀ k, (∀ y0 y1 y2, LeO (secateurlaw06_KindDescs.j0 k y0 y1 y2) (secateurlaw06_KindDescs.j0 (k + 1) y0 y1 y2))
  | 0 => fun _ _ _ r h => by simp [secateurlaw06_KindDescs.j0] at h
  | k + 1 => by
    have ih0 := secateurlaw06_KindDescs.mono_l k
    · intro y0 y1 y2
      unfold secateurlaw06_KindDescs.j0
      repeat' first
      | (with_reducible exact ih0 _ _ _)
      | (with_reducible exact secateurref01_SameTexts.mono _ _ _)
      | (with_reducible exact LeO.refl _)
      | (with_reducible exact LeO.none _)
      | (with_reducible refine LeO.ite ?_ ?_)
      | (with_reducible refine LeO.bind ?_ (fun _ => ?_))
      | exact ih0 _ _ _
      | exact secateurref01_SameTexts.mono _ _ _
      | exact LeO.none _
      | refine LeO.ite ?_ ?_
      | refine LeO.bind ?_ (fun _ => ?_)
theorem secateurlaw06_KindDescs.mono : ∀ a0 a1 k, LeO (secateurlaw06_KindDescs.f k a0 a1) (secateurlaw06_KindDescs.f (k + 1) a0 a1) := by
  intro a0 a1 k
  have ih0 := secateurlaw06_KindDescs.mono_l k
  unfold secateurlaw06_KindDescs.f
  repeat' first
      | (with_reducible exact ih0 _ _ _)
      | (with_reducible exact secateurref01_SameTexts.mono _ _ _)
      | (with_reducible exact LeO.refl _)
      | (with_reducible exact LeO.none _)
      | (with_reducible refine LeO.ite ?_ ?_)
      | (with_reducible refine LeO.bind ?_ (fun _ => ?_))
      | exact ih0 _ _ _
      | exact secateurref01_SameTexts.mono _ _ _
      | exact LeO.none _
      | refine LeO.ite ?_ ?_
      | refine LeO.bind ?_ (fun _ => ?_)
def secateurlaw06_KindDescs.T3 : Bool × List (List Nat × List Nat) := (true, [([], []), ([0], [0]), ([1], [1]), ([], []), ([3], [3]), ([2, 4], [2, 4]), ([5], [5]), ([6], [6]), ([6], [6]), ([7, 5, 0, 1, 2, 3, 4, 5, 6, 7], [7]), ([8, 9, 0, 1, 2, 3, 4, 5, 6, 7, 8, 9], [8])])
def secateurlaw06_KindDescs.B3 : List Nat := [0, 1, 3, 0, 8, 31, 63, 127, 127, 255, 1023]
theorem secateurlaw06_KindDescs.tab3 : rtab .any (opsOf Try.f9 3) = secateurlaw06_KindDescs.T3 := by kernel_rfl
theorem secateurlaw06_KindDescs.bits3 : waitsOk secateurlaw06_KindDescs.T3.2 secateurlaw06_KindDescs.B3 = true := by kernel_rfl
def secateurlaw06_KindDescs.T4 : Bool × List (List Nat × List Nat) := (true, [([], []), ([0], [0]), ([1], [1]), ([], []), ([3], [3]), ([2, 4], [2, 4]), ([5], [5]), ([6], [6]), ([6], [6]), ([7, 5, 0, 1, 2, 3, 4, 5, 6, 7], [7]), ([8, 9, 0, 1, 2, 3, 4, 5, 6, 7, 8, 9], [8])])
def secateurlaw06_KindDescs.B4 : List Nat := [0, 1, 3, 0, 8, 31, 63, 127, 127, 255, 1023]
theorem secateurlaw06_KindDescs.tab4 : rtab .any (opsOf Try.f9 4) = secateurlaw06_KindDescs.T4 := by kernel_rfl
theorem secateurlaw06_KindDescs.bits4 : waitsOk secateurlaw06_KindDescs.T4.2 secateurlaw06_KindDescs.B4 = true := by kernel_rfl
set_option maxHeartbeats 8000000 in
set_option maxRecDepth 100000 in
theorem secateurlaw06_KindDescs.calls (k : Nat) (A0 : Option Addr) (c0 : Nat) (l0 : List (S54)) (a1 : ByteArray) (r : Bool) (w : World) (hr0 : Kd.C k54 w A0 l0.length l0) (hc0 : l0.length ≤ c0) (hGMaxL : MaxL w) (h : secateurlaw06_KindDescs.f k l0 a1 = some r) (hr : r = true) :
    Calls Try.prog 9 #[.slice A0 l0.length c0, .string a1] w fun e w' => e = .returned (.bool r) ∧ Below w.heap.size w w' := by
  have hu54 := Try.underlying54
  have HGMaxL := Aside0.mk hGMaxL
  clear hGMaxL
  have HR0 := Aside0.mk hr0
  have HC0 := Aside0.mk hc0
  clear hr0 hc0
  have HRT := Aside0.mk hr
  clear hr
  have HB := Aside0.mk (Below.refl w.heap.size w)
  have H : (if (l0.length : Int) = 0 then (secateurlaw06_KindDescs.j0 k l0 a1 true) else (if (l0.length : Int) > 40 then (secateurlaw06_KindDescs.j0 k l0 a1 true) else (secateurlaw06_KindDescs.j0 k l0 a1 (decide ((a1.size : Int) > 2000))))) = some r := h
  clear h
  have HC3 := Aside0.mk H
  clear H
  go_enter Try.func9, Try.ntmps9
  go_upto_region 1 with (fail)
  go_cut [27] (fun v27 wc => ∃ (kq : Nat) (x27_2 : Bool), v27 = .bool x27_2 ∧ Aside0 (secateurlaw06_KindDescs.j0 kq l0 a1 x27_2 = some r) ∧ Aside0 (kq ≤ k) ∧ Aside0 (Below w.heap.size w wc))
  case first =>
    have H := HC3.out
    clear HC3
    by_cases c4 : (l0.length : Int) = 0
    · rw [if_pos c4] at H
      have c4b0 : ((l0.length : Int) == 0) = true := beq_iff_eq.mpr c4
      have c4b1 : ((l0.length : Int) != 0) = false := bne_eq_false_iff_eq.mpr c4
      clear c4
      (first | rw [c4b0] | rw [c4b1] | (simp only [i64_w, i32_w]; rw [c4b0]) | skip)
      have H' := Aside0.mk H
      clear H
      go_wp2
      go_meet
      case rel => exact ⟨_, (true), (by first | rfl | (simp; done) | (simp [*]; done)), H', ⟨by first | omega | exact Nat.le_refl _⟩, ⟨by repeat (first | (with_reducible first | exact HB.out | apply below_alloc | apply pw_below_drewN | apply below_drew1) | exact HB.out)⟩⟩
    · rw [if_neg c4] at H
      have c4b0 : ((l0.length : Int) == 0) = false := beq_eq_false_iff_ne.mpr c4
      have c4b1 : ((l0.length : Int) != 0) = true := bne_iff_ne.mpr c4
      have c4b2 : ¬ (l0 = []) := fun h_ => c4 (by rw [h_]; rfl)
      (first | rw [c4b0] | rw [c4b1] | (simp only [i64_w, i32_w]; rw [c4b0]) | skip)
      by_cases c5 : (l0.length : Int) > 40
      · rw [if_pos c5] at H
        have c5b0 : decide (40 < (l0.length : Int)) = true := decide_eq_true c5
        have c5b1 : decide (40 < l0.length) = true := decide_eq_true (by omega)
        clear c5
        have H' := Aside0.mk H
        clear H
        go_wp2
        go_meet
        case rel => exact ⟨_, (true), (by first | rfl | (simp; done) | (simp [*]; done)), H', ⟨by first | omega | exact Nat.le_refl _⟩, ⟨by repeat (first | (with_reducible first | exact HB.out | apply below_alloc | apply pw_below_drewN | apply below_drew1) | exact HB.out)⟩⟩
      · rw [if_neg c5] at H
        have c5b0 : decide (40 < (l0.length : Int)) = false := decide_eq_false c5
        have c5b1 : decide (40 < l0.length) = false := decide_eq_false (by omega)
        clear c5
        have H' := Aside0.mk H
        clear H
        go_wp2
        go_meet
        case rel => exact ⟨_, (decide ((a1.size : Int) > 2000)), (by first | rfl | (simp; done) | (simp [*]; done)), H', ⟨by first | omega | exact Nat.le_refl _⟩, ⟨by repeat (first | (with_reducible first | exact HB.out | apply below_alloc | apply pw_below_drewN | apply below_drew1) | exact HB.out)⟩⟩
  case rest =>
    clear HC3
    try clear p2
    try clear c4
    try clear c4b0
    try clear c4b1
    try clear c4b2
    try clear c5
    try clear c5b0
    try clear c5b1
    obtain ⟨kq, x27_2, rfl, HA, HJ2, HB⟩ := hcut
    cases kq with
    | zero => exact absurd HA.out (by simp [secateurlaw06_KindDescs.j0])
    | succ kj2 =>
      have H := HA.out
      clear HA
      simp only [secateurlaw06_KindDescs.j0] at H
      by_cases c6 : x27_2 = true
      · subst c6
        have H1 : ((secateurlaw06_live.f).bind fun t103 => (some t103)) = some r := by rw [if_pos rfl] at H; exact H
        clear H
        have H := H1
        clear H1
        replace H := Option.bind_eq_some_iff.mp H
        obtain ⟨t103, A70, H⟩ := H
        replace H : (some t103) = some r := H
        have A7 := Aside0.mk A70
        clear A70
        obtain rfl := Option.some.inj H
        go_wp2_with (first | ((with_reducible refine gate_callee (f := 30) rfl ?_); refine goesL_ (some 28) rfl rfl Try.func30 (by kernel_rfl) rfl #[] rfl (by (try simp only [List.map_toArray, List.map_cons, List.map_nil]); first | done | rfl | (simp only [List.length_drop, List.length_take]; rfl)) ?_; (with_reducible refine (secateurlaw06_live.calls  t103 _ ?side1 A7.out).mono ?_); (case side1 => exact MaxL.below HGMaxL.out (by repeat (first | (with_reducible first | exact HB.out | apply below_alloc | apply pw_below_drewN | apply below_drew1) | exact HB.out))); rintro e w8 ⟨rfl, hb⟩; refine ⟨_, rfl, ?_⟩; have n0_ := Aside0.mk (below_step (by repeat (first | (with_reducible first | exact HB.out | apply below_alloc | apply pw_below_drewN | apply below_drew1) | exact HB.out)) hb); clear HB; have HB := n0_; clear n0_; (try clear hb); (try clear hb2); (try clear hk); (try clear hi)))
        go_ret
        exact ⟨by first | rfl | (simp [errW_none, errW_some] <;> rfl) | (simp [*, errW_none, errW_some] <;> rfl), by repeat (first | (with_reducible first | exact HB.out | apply below_alloc | apply pw_below_drewN | apply below_drew1) | exact HB.out)⟩
      · replace c6 := Bool.eq_false_iff.mpr c6
        subst c6
        have H1 : (if 0 < (l0.length : Int) then (if 1 ≤ (l0.length : Int) then ((kind_Desc.f ((rd_T54 l0 0).f0) ((rd_T54 l0 0).f1) (l0.drop 1)).bind fun bt109 => ((secateurref06_Desc.f ((rd_T54 l0 0).f0) ((rd_T54 l0 0).f1) (l0.drop 1)).bind fun bt116 => ((kind_Split.f a1).bind fun bt118 => ((secateurref06_Split.f a1).bind fun bt125 => ((secateurlaw06_live.f).bind fun t132 => (if t132 = true then (if bt109.1.toList = bt116.1.toList then (if bt109.2 = bt116.2 then ((secateurref06_SameTypes.f bt118.1 bt125.1).bind fun t133 => (if t133 = true then (if (bt118.2.1 == bt125.2.1 && (bt118.2.2.1.toList == bt125.2.2.1.toList)) = true then (if bt118.2.2.2 = bt125.2.2.2 then ((kind_Classes.f a1).bind fun t134 => ((secateurref06_Classes.f a1).bind fun t137 => ((secateurref01_SameTexts.f kj2 t134 t137).bind fun t140 => (some t140)))) else (some false)) else (some false)) else (some false))) else (some false)) else (some false)) else (some false))))))) else (none)) else (none)) = some r := by rw [if_neg (show ¬ (false = true) by decide)] at H; exact H
        clear H
        have H := H1
        clear H1
        by_cases c9 : 0 < (l0.length : Int)
        · rw [if_pos c9] at H
          have c9b0 : decide (0 < (l0.length : Int)) = true := decide_eq_true c9
          have c9b1 : decide (0 < l0.length) = true := decide_eq_true (by omega)
          clear c9
          by_cases c10 : 1 ≤ (l0.length : Int)
          · rw [if_pos c10] at H
            have c10b0 := eq_true c10
            have c10b1 : decide (1 ≤ (l0.length : Int)) = true := decide_eq_true c10
            (try have c10c0 : ((1) ≤ (c0 : Int)) = True := eq_true (by have h_ := HC0.out; omega))
            clear c10
            obtain ⟨y105, hy105⟩ : ∃ y_ : List (S54), y_ = (l0.drop 1) := ⟨_, rfl⟩
            replace H : ((kind_Desc.f ((rd_T54 l0 0).f0) ((rd_T54 l0 0).f1) y105).bind fun bt109 => ((secateurref06_Desc.f ((rd_T54 l0 0).f0) ((rd_T54 l0 0).f1) (l0.drop 1)).bind fun bt116 => ((kind_Split.f a1).bind fun bt118 => ((secateurref06_Split.f a1).bind fun bt125 => ((secateurlaw06_live.f).bind fun t132 => (if t132 = true then (if bt109.1.toList = bt116.1.toList then (if bt109.2 = bt116.2 then ((secateurref06_SameTypes.f bt118.1 bt125.1).bind fun t133 => (if t133 = true then (if (bt118.2.1 == bt125.2.1 && (bt118.2.2.1.toList == bt125.2.2.1.toList)) = true then (if bt118.2.2.2 = bt125.2.2.2 then ((kind_Classes.f a1).bind fun t134 => ((secateurref06_Classes.f a1).bind fun t137 => ((secateurref01_SameTexts.f kj2 t134 t137).bind fun t140 => (some t140)))) else (some false)) else (some false)) else (some false))) else (some false)) else (some false)) else (some false))))))) = some r := by first | (rw [hy105]; with_reducible exact H) | (have H2_ := (Option.bind_some _ _).symm.trans H; rw [hy105]; with_reducible exact H2_) | (have H2_ := (Option.bind_some _ _).symm.trans H; with_reducible exact H2_) | with_reducible exact H | (rw [hy105]; exact H) | exact H
            have Ny105 := Aside0.mk hy105
            clear hy105
            replace H := Option.bind_eq_some_iff.mp H
            obtain ⟨⟨t109, t110⟩, A110, H⟩ := H
            replace H : ((secateurref06_Desc.f ((rd_T54 l0 0).f0) ((rd_T54 l0 0).f1) (l0.drop 1)).bind fun bt116 => ((kind_Split.f a1).bind fun bt118 => ((secateurref06_Split.f a1).bind fun bt125 => ((secateurlaw06_live.f).bind fun t132 => (if t132 = true then (if t109.toList = bt116.1.toList then (if t110 = bt116.2 then ((secateurref06_SameTypes.f bt118.1 bt125.1).bind fun t133 => (if t133 = true then (if (bt118.2.1 == bt125.2.1 && (bt118.2.2.1.toList == bt125.2.2.1.toList)) = true then (if bt118.2.2.2 = bt125.2.2.2 then ((kind_Classes.f a1).bind fun t134 => ((secateurref06_Classes.f a1).bind fun t137 => ((secateurref01_SameTexts.f kj2 t134 t137).bind fun t140 => (some t140)))) else (some false)) else (some false)) else (some false))) else (some false)) else (some false)) else (some false)))))) = some r := H
            have A11 := Aside0.mk A110
            clear A110
            have c12b0 := eq_true (of_decide_eq_true (by first | (with_reducible assumption) | assumption) : 1 ≤ (l0.length : Int))
            obtain ⟨y112, hy112⟩ : ∃ y_ : List (S54), y_ = (l0.drop 1) := ⟨_, rfl⟩
            replace H : ((secateurref06_Desc.f ((rd_T54 l0 0).f0) ((rd_T54 l0 0).f1) y112).bind fun bt116 => ((kind_Split.f a1).bind fun bt118 => ((secateurref06_Split.f a1).bind fun bt125 => ((secateurlaw06_live.f).bind fun t132 => (if t132 = true then (if t109.toList = bt116.1.toList then (if t110 = bt116.2 then ((secateurref06_SameTypes.f bt118.1 bt125.1).bind fun t133 => (if t133 = true then (if (bt118.2.1 == bt125.2.1 && (bt118.2.2.1.toList == bt125.2.2.1.toList)) = true then (if bt118.2.2.2 = bt125.2.2.2 then ((kind_Classes.f a1).bind fun t134 => ((secateurref06_Classes.f a1).bind fun t137 => ((secateurref01_SameTexts.f kj2 t134 t137).bind fun t140 => (some t140)))) else (some false)) else (some false)) else (some false))) else (some false)) else (some false)) else (some false)))))) = some r := by first | (rw [hy112]; with_reducible exact H) | (have H2_ := (Option.bind_some _ _).symm.trans H; rw [hy112]; with_reducible exact H2_) | (have H2_ := (Option.bind_some _ _).symm.trans H; with_reducible exact H2_) | with_reducible exact H | (rw [hy112]; exact H) | exact H
            have Ny112 := Aside0.mk hy112
            clear hy112
            replace H := Option.bind_eq_some_iff.mp H
            obtain ⟨⟨t116, t117⟩, A130, H⟩ := H
            replace H : ((kind_Split.f a1).bind fun bt118 => ((secateurref06_Split.f a1).bind fun bt125 => ((secateurlaw06_live.f).bind fun t132 => (if t132 = true then (if t109.toList = t116.toList then (if t110 = t117 then ((secateurref06_SameTypes.f bt118.1 bt125.1).bind fun t133 => (if t133 = true then (if (bt118.2.1 == bt125.2.1 && (bt118.2.2.1.toList == bt125.2.2.1.toList)) = true then (if bt118.2.2.2 = bt125.2.2.2 then ((kind_Classes.f a1).bind fun t134 => ((secateurref06_Classes.f a1).bind fun t137 => ((secateurref01_SameTexts.f kj2 t134 t137).bind fun t140 => (some t140)))) else (some false)) else (some false)) else (some false))) else (some false)) else (some false)) else (some false))))) = some r := H
            have A13 := Aside0.mk A130
            clear A130
            replace H := Option.bind_eq_some_iff.mp H
            obtain ⟨⟨t118, t121, t122, t123⟩, A140, H⟩ := H
            replace H : ((secateurref06_Split.f a1).bind fun bt125 => ((secateurlaw06_live.f).bind fun t132 => (if t132 = true then (if t109.toList = t116.toList then (if t110 = t117 then ((secateurref06_SameTypes.f t118 bt125.1).bind fun t133 => (if t133 = true then (if (t121 == bt125.2.1 && (t122.toList == bt125.2.2.1.toList)) = true then (if t123 = bt125.2.2.2 then ((kind_Classes.f a1).bind fun t134 => ((secateurref06_Classes.f a1).bind fun t137 => ((secateurref01_SameTexts.f kj2 t134 t137).bind fun t140 => (some t140)))) else (some false)) else (some false)) else (some false))) else (some false)) else (some false)) else (some false)))) = some r := H
            have A14 := Aside0.mk A140
            clear A140
            replace H := Option.bind_eq_some_iff.mp H
            obtain ⟨⟨t125, t128, t129, t130⟩, A150, H⟩ := H
            replace H : ((secateurlaw06_live.f).bind fun t132 => (if t132 = true then (if t109.toList = t116.toList then (if t110 = t117 then ((secateurref06_SameTypes.f t118 t125).bind fun t133 => (if t133 = true then (if (t121 == t128 && (t122.toList == t129.toList)) = true then (if t123 = t130 then ((kind_Classes.f a1).bind fun t134 => ((secateurref06_Classes.f a1).bind fun t137 => ((secateurref01_SameTexts.f kj2 t134 t137).bind fun t140 => (some t140)))) else (some false)) else (some false)) else (some false))) else (some false)) else (some false)) else (some false))) = some r := H
            have A15 := Aside0.mk A150
            clear A150
            replace H := Option.bind_eq_some_iff.mp H
            obtain ⟨t132, A160, H⟩ := H
            replace H : (if t132 = true then (if t109.toList = t116.toList then (if t110 = t117 then ((secateurref06_SameTypes.f t118 t125).bind fun t133 => (if t133 = true then (if (t121 == t128 && (t122.toList == t129.toList)) = true then (if t123 = t130 then ((kind_Classes.f a1).bind fun t134 => ((secateurref06_Classes.f a1).bind fun t137 => ((secateurref01_SameTexts.f kj2 t134 t137).bind fun t140 => (some t140)))) else (some false)) else (some false)) else (some false))) else (some false)) else (some false)) else (some false)) = some r := H
            have A16 := Aside0.mk A160
            clear A160
            by_cases c17 : t132 = true
            · subst c17
              have H1 : (if t109.toList = t116.toList then (if t110 = t117 then ((secateurref06_SameTypes.f t118 t125).bind fun t133 => (if t133 = true then (if (t121 == t128 && (t122.toList == t129.toList)) = true then (if t123 = t130 then ((kind_Classes.f a1).bind fun t134 => ((secateurref06_Classes.f a1).bind fun t137 => ((secateurref01_SameTexts.f kj2 t134 t137).bind fun t140 => (some t140)))) else (some false)) else (some false)) else (some false))) else (some false)) else (some false)) = some r := by rw [if_pos rfl] at H; exact H
              clear H
              have H := H1
              clear H1
              by_cases c18 : t109.toList = t116.toList
              · rw [if_pos c18] at H
                have c18b0 : (t109.toList == t116.toList) = true := beq_iff_eq.mpr c18
                have c18b1 : (t109.toList != t116.toList) = false := bne_eq_false_iff_eq.mpr c18
                clear c18
                by_cases c19 : t110 = t117
                · rw [if_pos c19] at H
                  have c19b0 : (t110 == t117) = true := beq_iff_eq.mpr c19
                  have c19b1 : (t110 != t117) = false := bne_eq_false_iff_eq.mpr c19
                  clear c19
                  replace H := Option.bind_eq_some_iff.mp H
                  obtain ⟨t133, A200, H⟩ := H
                  replace H : (if t133 = true then (if (t121 == t128 && (t122.toList == t129.toList)) = true then (if t123 = t130 then ((kind_Classes.f a1).bind fun t134 => ((secateurref06_Classes.f a1).bind fun t137 => ((secateurref01_SameTexts.f kj2 t134 t137).bind fun t140 => (some t140)))) else (some false)) else (some false)) else (some false)) = some r := H
                  have A20 := Aside0.mk A200
                  clear A200
                  by_cases c21 : t133 = true
                  · subst c21
                    have H1 : (if (t121 == t128 && (t122.toList == t129.toList)) = true then (if t123 = t130 then ((kind_Classes.f a1).bind fun t134 => ((secateurref06_Classes.f a1).bind fun t137 => ((secateurref01_SameTexts.f kj2 t134 t137).bind fun t140 => (some t140)))) else (some false)) else (some false)) = some r := by rw [if_pos rfl] at H; exact H
                    clear H
                    have H := H1
                    clear H1
                    by_cases c22 : (t121 == t128 && (t122.toList == t129.toList)) = true
                    · rw [if_pos c22] at H
                      have c22b0 : (t121 == t128 && (t122.toList == t129.toList)) = true := c22
                      (try (have c22b1 : decide (t121 = t128 && (t122.toList == t129.toList)) = true := by simpa using c22))
                      (try (have c22b2 : (t121 == t128 && (t122.toList == t129.toList)) = true := by simpa using c22))
                      clear c22
                      by_cases c23 : t123 = t130
                      · rw [if_pos c23] at H
                        have c23b0 : (t123 == t130) = true := beq_iff_eq.mpr c23
                        have c23b1 : (t123 != t130) = false := bne_eq_false_iff_eq.mpr c23
                        clear c23
                        replace H := Option.bind_eq_some_iff.mp H
                        obtain ⟨t134, A240, H⟩ := H
                        replace H : ((secateurref06_Classes.f a1).bind fun t137 => ((secateurref01_SameTexts.f kj2 t134 t137).bind fun t140 => (some t140))) = some r := H
                        have A24 := Aside0.mk A240
                        clear A240
                        replace H := Option.bind_eq_some_iff.mp H
                        obtain ⟨t137, A250, H⟩ := H
                        replace H : ((secateurref01_SameTexts.f kj2 t134 t137).bind fun t140 => (some t140)) = some r := H
                        have A25 := Aside0.mk A250
                        clear A250
                        replace H := Option.bind_eq_some_iff.mp H
                        obtain ⟨t140, A260, H⟩ := H
                        replace H : (some t140) = some r := H
                        have A26 := Aside0.mk A260
                        clear A260
                        obtain rfl := Option.some.inj H
                        try go_wp2
                        have n0_ := Aside0.mk (below_drew1 HB.out)
                        clear HB
                        have HB := n0_
                        clear n0_
                        have p104 : 0 ≤ (0 : Int) := (by omega)
                        have q104 : 0 < (l0.length : Int) := of_decide_eq_true (by first | (with_reducible assumption) | assumption)
                        obtain ⟨ad104, e104, hx104_0, hx104_1⟩ := at_T54 HR0.out 0 p104 q104
                        have hw104_1 := hx104_1
                        (try rw [show ((0 : Int)).toNat = 0 from rfl] at hw104_1)
                        (try rw [show 0 * 2 = 0 from rfl] at hw104_1)
                        (try rw [Addr.add_zero'] at hw104_1)
                        have hw104_0 := hx104_0
                        (try rw [show ((0 : Int)).toNat = 0 from rfl] at hw104_0)
                        (try rw [show 0 * 2 = 0 from rfl] at hw104_0)
                        (try rw [Addr.add_zero'] at hw104_0)
                        cases e104
                        have qi104 : (0 < l0.length) = True := eq_true (by omega)
                        (try rw [show ((0 : Int)).toNat = 0 from rfl] at hx104_0)
                        (try rw [show 0 * 2 = 0 from rfl] at hx104_0)
                        (try rw [Addr.add_zero'] at hx104_0)
                        (try rw [show ((0 : Int)).toNat = 0 from rfl] at hx104_1)
                        (try rw [show 0 * 2 = 0 from rfl] at hx104_1)
                        (try rw [Addr.add_zero'] at hx104_1)
                        replace hx104_0 := (HB.out.cell (World.block_lt_of_cell? w _ hx104_0)).trans hx104_0
                        replace hx104_1 := (HB.out.cell (World.block_lt_of_cell? w _ hx104_1)).trans hx104_1
                        replace p104 := eq_true p104
                        replace q104 := eq_true q104
                        have q28 : (1 : Int) ≤ ((l0.length : Int) : Int) := of_decide_eq_true (by first | (with_reducible assumption) | assumption)
                        obtain ⟨i028, hi028, _, hsz28, _⟩ := info_parts info54
                        have hroom28 : l0.length ≤ c0 := HC0.out
                        have hC28 : Kd.C k54 _ (some ad104) l0.length l0 := HR0.out
                        have hcut28 := cut_from (P := Try.prog) 61 54 .i64 Try.underlying61 hi028 2 hsz28 (some ad104) l0.length c0 1 (by omega) q28
                        have hr28 := Kd.C_drop (m := (1 : Int).toNat) (c := c0) hC28 (by omega) hroom28
                        obtain ⟨A28, hA28⟩ : ∃ A1, A1 = (if c0 = (1 : Int).toNat then (some ad104) else ((some ad104) : Option Addr).map (·.add ((1 : Int).toNat * 2))) := ⟨_, rfl⟩
                        obtain ⟨c28, hc28⟩ : ∃ c1, c1 = c0 - (1 : Int).toNat := ⟨_, rfl⟩
                        have hy28 : y105.length = l0.length - (1 : Int).toNat := (by rw [Ny105.out, List.length_drop] <;> omega)
                        rw [show (l0).drop (1 : Int).toNat = y105 from Ny105.out.symm] at hr28
                        replace hr28 : Kd.C k54 _ A28 y105.length y105 := (by rw [hA28]; exact hr28)
                        rw [← hy28, ← hA28, ← hc28] at hcut28
                        have HR108 := Aside0.mk hr28
                        have HC108 := Aside0.mk (show y105.length ≤ c28 from by rw [hy28, hc28]; exact Nat.sub_le_sub_right hroom28 _)
                        clear hr28 hC28 hroom28 hi028 hsz28 hc28
                        have KY28 := Aside0.mk hy28
                        have KA28 := Aside0.mk hA28
                        clear hy28 hA28
                        replace q28 := eq_true q28
                        refine start_ (n := 11) (S := fun w' => w'.cell? ad104 = some (.int .i64 ((rd_T54 l0 0).f0)) ∧ w'.cell? ⟨ad104.block, ad104.off + 1, none⟩ = some (.string ((rd_T54 l0 0).f1))) (ds := []) #[false, false, false, false, false, false, false, false, false, false, false] (by kernel_rfl) rfl rfl ⟨((HB.out.cell (World.block_lt_of_cell? w _ hw104_0)).trans hw104_0), ((HB.out.cell (World.block_lt_of_cell? w _ hw104_1)).trans hw104_1)⟩ (fun hHeld => ?_); refine with_tabW secateurlaw06_KindDescs.tab3 secateurlaw06_KindDescs.bits3 (fun HT_ HW_ => ?_)
                        generalize wc.drew = w27 at HB HR108 hx104_0 hx104_1 hHeld ⊢
                        refine pure_ (i := 0) (N := some 30) (v := ?_) (a' := ?_) #[true, false, false, false, false, false, false, false, false, false, false] rfl rfl (any_of HT_.out (by kernel_rfl)) (fun _ _ _ h => h) (Or.inl ⟨by rfl, ?_⟩) ?_ ?_
                        rotate_left
                        · intro w'
                          go_simp
                          with_reducible rfl
                        rotate_left
                        · simp only [Act.put, List.setIfInBounds_toArray, List.set_cons_zero, List.set_cons_succ, i64_w, i32_w]
                          rfl
                        refine pure_ (i := 1) (N := some 31) (v := ?_) (a' := ?_) #[true, true, false, false, false, false, false, false, false, false, false] rfl rfl (any_of HT_.out (by kernel_rfl)) (fun _ _ _ h => h) (Or.inl ⟨by rfl, ?_⟩) ?_ ?_
                        rotate_left
                        · intro w'
                          go_simp
                          with_reducible rfl
                        rotate_left
                        · simp only [Act.put, List.setIfInBounds_toArray, List.set_cons_zero, List.set_cons_succ, i64_w, i32_w]
                          rfl
                        refine pure_ (i := 3) (N := some 33) (v := ?_) (a' := ?_) #[true, true, false, true, false, false, false, false, false, false, false] rfl rfl (any_of HT_.out (by kernel_rfl)) (fun _ _ _ h => h) (Or.inl ⟨by rfl, ?_⟩) ?_ ?_
                        rotate_left
                        · intro w'
                          go_simp
                          with_reducible rfl
                        rotate_left
                        · simp only [Act.put, List.setIfInBounds_toArray, List.set_cons_zero, List.set_cons_succ, i64_w, i32_w]
                          rfl
                        refine pure_ (i := 4) (N := some 34) (v := ?_) (a' := ?_) #[true, true, false, true, true, false, false, false, false, false, false] rfl rfl (any_of HT_.out (by kernel_rfl)) (fun _ _ _ h => h) (Or.inl ⟨by rfl, ?_⟩) ?_ ?_
                        rotate_left
                        · intro w'
                          go_simp
                          with_reducible rfl
                        rotate_left
                        · simp only [Act.put, List.setIfInBounds_toArray, List.set_cons_zero, List.set_cons_succ, i64_w, i32_w]
                          rfl
                        refine take_ (i := 2) (N := some 32) (v := ?_) (a' := ?_) #[true, true, true, true, true, false, false, false, false, false, false] rfl rfl (take_ofW HT_.out HW_.out (by kernel_rfl)) (fun _ _ _ h => h) (Or.inl ⟨by rfl, ?_⟩) hHeld ?_ ?_
                        rotate_left
                        · rintro w' ⟨s0, s1⟩
                          go_simp
                          with_reducible rfl
                        rotate_left
                        · simp only [Act.put, List.setIfInBounds_toArray, List.set_cons_zero, List.set_cons_succ, i64_w, i32_w]
                          rfl
                        refine one_ (i := 5) (N := some 35) #[true, true, true, true, true, true, false, false, false, false, false] rfl rfl (one_of HT_.out (by kernel_rfl)) (by decide) (fun K hK => ?_)
                        refine goes_ Try.func41 (by kernel_rfl) rfl #[.agg #[.int .i64 ((rd_T54 l0 0).f0), .string ((rd_T54 l0 0).f1)], .slice A28 y105.length c28] (by rfl) rfl rfl (by (try simp only [List.map_toArray, List.map_cons, List.map_nil]); first | done | rfl | (simp only [List.length_drop, List.length_take]; rfl)) ?_
                        with_reducible refine (kind_Desc.calls ((rd_T54 l0 0).f0) ((rd_T54 l0 0).f1) _ _ y105 t109 t110 _ ?side1 ?side2 A11.out).mono ?_
                        (case side1 => repeat (first | exact (Kd.C_below HR108.out HB.out) | (with_reducible refine Kd.C_alloc ?_ _) | (with_reducible refine Kd.C_drewN ?_ _) | (with_reducible refine Kd.C_drew ?_)))
                        (case side2 => exact HC108.out)
                        rintro e w29 ⟨rfl, hb⟩
                        (try clear hcut28)
                        refine ⟨_, rfl, ?_⟩
                        have n0_ := Aside0.mk (below_step (by repeat (first | (with_reducible first | exact HB.out | apply below_alloc | apply pw_below_drewN | apply below_drew1) | exact HB.out)) hb)
                        clear HB
                        have HB := n0_
                        clear n0_
                        (try clear hb)
                        (try clear hb2)
                        (try clear hk)
                        (try clear hi)
                        refine hK.out _ _ ⟨((HB.out.cell (World.block_lt_of_cell? w _ hw104_0)).trans hw104_0), ((HB.out.cell (World.block_lt_of_cell? w _ hw104_1)).trans hw104_1)⟩ (fun hHeld => ?_)
                        clear hK K
                        refine norm_ (a' := ?_) ?_ ?_
                        rotate_left
                        · show Act.put _ (some 35) _ = _
                          simp only [Act.put, List.setIfInBounds_toArray, List.set_cons_zero, List.set_cons_succ, i64_w, i32_w]
                          rfl
                        refine pure_ (i := 6) (N := some 29) (v := ?_) (a' := ?_) #[true, true, true, true, true, true, true, false, false, false, false] rfl rfl (any_of HT_.out (by kernel_rfl)) (fun _ _ _ h => h) (Or.inl ⟨by rfl, ?_⟩) ?_ ?_
                        rotate_left
                        · intro w'
                          go_simp
                          with_reducible rfl
                        rotate_left
                        · simp only [Act.put, List.setIfInBounds_toArray, List.set_cons_zero, List.set_cons_succ, i64_w, i32_w]
                          rfl
                        refine pure_ (i := 7) (N := some 36) (v := ?_) (a' := ?_) #[true, true, true, true, true, true, true, true, false, false, false] rfl rfl (any_of HT_.out (by kernel_rfl)) (fun _ _ _ h => h) (Or.inl ⟨by rfl, ?_⟩) ?_ ?_
                        rotate_left
                        · intro w'
                          go_simp
                          with_reducible rfl
                        rotate_left
                        · simp only [Act.put, List.setIfInBounds_toArray, List.set_cons_zero, List.set_cons_succ, i64_w, i32_w]
                          rfl
                        refine pure_ (i := 8) (N := some 37) (v := ?_) (a' := ?_) #[true, true, true, true, true, true, true, true, true, false, false] rfl rfl (any_of HT_.out (by kernel_rfl)) (fun _ _ _ h => h) (Or.inl ⟨by rfl, ?_⟩) ?_ ?_
                        rotate_left
                        · intro w'
                          go_simp
                          with_reducible rfl
                        rotate_left
                        · simp only [Act.put, List.setIfInBounds_toArray, List.set_cons_zero, List.set_cons_succ, i64_w, i32_w]
                          rfl
                        refine pure_ (i := 9) (N := some 5) (v := ?_) (a' := ?_) #[true, true, true, true, true, true, true, true, true, true, false] rfl rfl (any_of HT_.out (by kernel_rfl)) (fun _ _ _ h => h) (Or.inl ⟨by rfl, ?_⟩) ?_ ?_
                        rotate_left
                        · intro w'
                          go_simp
                          with_reducible rfl
                        rotate_left
                        · simp only [Act.put, List.setIfInBounds_toArray, List.set_cons_zero, List.set_cons_succ, i64_w, i32_w]
                          rfl
                        refine pure_ (i := 10) (N := some 6) (v := ?_) (a' := ?_) #[true, true, true, true, true, true, true, true, true, true, true] rfl rfl (any_of HT_.out (by kernel_rfl)) (fun _ _ _ h => h) (Or.inl ⟨by rfl, ?_⟩) ?_ ?_
                        rotate_left
                        · intro w'
                          go_simp
                          with_reducible rfl
                        rotate_left
                        · simp only [Act.put, List.setIfInBounds_toArray, List.set_cons_zero, List.set_cons_succ, i64_w, i32_w]
                          rfl
                        refine done_ (done_of HT_.out (by kernel_rfl)) ?_
                        try go_wp2
                        have n0_ := Aside0.mk (below_drew1 HB.out)
                        clear HB
                        have HB := n0_
                        clear n0_
                        have p111 : 0 ≤ (0 : Int) := (by omega)
                        have q111 : 0 < (l0.length : Int) := of_decide_eq_true (by first | (with_reducible assumption) | assumption)
                        obtain ⟨ad111, e111, hx111_0, hx111_1⟩ := at_T54 HR0.out 0 p111 q111
                        have hw111_1 := hx111_1
                        (try rw [show ((0 : Int)).toNat = 0 from rfl] at hw111_1)
                        (try rw [show 0 * 2 = 0 from rfl] at hw111_1)
                        (try rw [Addr.add_zero'] at hw111_1)
                        have hw111_0 := hx111_0
                        (try rw [show ((0 : Int)).toNat = 0 from rfl] at hw111_0)
                        (try rw [show 0 * 2 = 0 from rfl] at hw111_0)
                        (try rw [Addr.add_zero'] at hw111_0)
                        obtain rfl : ad104 = ad111 := (by injection e111)
                        have qi111 : (0 < l0.length) = True := eq_true (by omega)
                        (try rw [show ((0 : Int)).toNat = 0 from rfl] at hx111_0)
                        (try rw [show 0 * 2 = 0 from rfl] at hx111_0)
                        (try rw [Addr.add_zero'] at hx111_0)
                        (try rw [show ((0 : Int)).toNat = 0 from rfl] at hx111_1)
                        (try rw [show 0 * 2 = 0 from rfl] at hx111_1)
                        (try rw [Addr.add_zero'] at hx111_1)
                        replace hx111_0 := (HB.out.cell (World.block_lt_of_cell? w _ hx111_0)).trans hx111_0
                        replace hx111_1 := (HB.out.cell (World.block_lt_of_cell? w _ hx111_1)).trans hx111_1
                        replace p111 := eq_true p111
                        replace q111 := eq_true q111
                        have q31 : (1 : Int) ≤ ((l0.length : Int) : Int) := of_decide_eq_true (by first | (with_reducible assumption) | assumption)
                        obtain ⟨i031, hi031, _, hsz31, _⟩ := info_parts info54
                        have hroom31 : l0.length ≤ c0 := HC0.out
                        have hC31 : Kd.C k54 _ (some ad104) l0.length l0 := HR0.out
                        have hcut31 := cut_from (P := Try.prog) 61 54 .i64 Try.underlying61 hi031 2 hsz31 (some ad104) l0.length c0 1 (by omega) q31
                        have hr31 := Kd.C_drop (m := (1 : Int).toNat) (c := c0) hC31 (by omega) hroom31
                        obtain ⟨A31, hA31⟩ : ∃ A1, A1 = (if c0 = (1 : Int).toNat then (some ad104) else ((some ad104) : Option Addr).map (·.add ((1 : Int).toNat * 2))) := ⟨_, rfl⟩
                        obtain ⟨c31, hc31⟩ : ∃ c1, c1 = c0 - (1 : Int).toNat := ⟨_, rfl⟩
                        have hy31 : y112.length = l0.length - (1 : Int).toNat := (by rw [Ny112.out, List.length_drop] <;> omega)
                        rw [show (l0).drop (1 : Int).toNat = y112 from Ny112.out.symm] at hr31
                        replace hr31 : Kd.C k54 _ A31 y112.length y112 := (by rw [hA31]; exact hr31)
                        rw [← hy31, ← hA31, ← hc31] at hcut31
                        have HR115 := Aside0.mk hr31
                        have HC115 := Aside0.mk (show y112.length ≤ c31 from by rw [hy31, hc31]; exact Nat.sub_le_sub_right hroom31 _)
                        clear hr31 hC31 hroom31 hi031 hsz31 hc31
                        have KY31 := Aside0.mk hy31
                        have KA31 := Aside0.mk hA31
                        clear hy31 hA31
                        replace q31 := eq_true q31
                        refine start_ (n := 11) (S := fun w' => w'.cell? ad104 = some (.int .i64 ((rd_T54 l0 0).f0)) ∧ w'.cell? ⟨ad104.block, ad104.off + 1, none⟩ = some (.string ((rd_T54 l0 0).f1))) (ds := []) #[false, false, false, false, false, false, false, false, false, false, false] (by kernel_rfl) rfl rfl ⟨((HB.out.cell (World.block_lt_of_cell? w _ hw111_0)).trans hw111_0), ((HB.out.cell (World.block_lt_of_cell? w _ hw111_1)).trans hw111_1)⟩ (fun hHeld => ?_); refine with_tabW secateurlaw06_KindDescs.tab4 secateurlaw06_KindDescs.bits4 (fun HT_ HW_ => ?_)
                        generalize w29.drew = w30 at HB HR115 hx111_0 hx111_1 hHeld ⊢
                        refine pure_ (i := 0) (N := some 39) (v := ?_) (a' := ?_) #[true, false, false, false, false, false, false, false, false, false, false] rfl rfl (any_of HT_.out (by kernel_rfl)) (fun _ _ _ h => h) (Or.inl ⟨by rfl, ?_⟩) ?_ ?_
                        rotate_left
                        · intro w'
                          go_simp
                          with_reducible rfl
                        rotate_left
                        · simp only [Act.put, List.setIfInBounds_toArray, List.set_cons_zero, List.set_cons_succ, i64_w, i32_w]
                          rfl
                        refine pure_ (i := 1) (N := some 40) (v := ?_) (a' := ?_) #[true, true, false, false, false, false, false, false, false, false, false] rfl rfl (any_of HT_.out (by kernel_rfl)) (fun _ _ _ h => h) (Or.inl ⟨by rfl, ?_⟩) ?_ ?_
                        rotate_left
                        · intro w'
                          go_simp
                          with_reducible rfl
                        rotate_left
                        · simp only [Act.put, List.setIfInBounds_toArray, List.set_cons_zero, List.set_cons_succ, i64_w, i32_w]
                          rfl
                        refine pure_ (i := 3) (N := some 42) (v := ?_) (a' := ?_) #[true, true, false, true, false, false, false, false, false, false, false] rfl rfl (any_of HT_.out (by kernel_rfl)) (fun _ _ _ h => h) (Or.inl ⟨by rfl, ?_⟩) ?_ ?_
                        rotate_left
                        · intro w'
                          go_simp
                          with_reducible rfl
                        rotate_left
                        · simp only [Act.put, List.setIfInBounds_toArray, List.set_cons_zero, List.set_cons_succ, i64_w, i32_w]
                          rfl
                        refine pure_ (i := 4) (N := some 43) (v := ?_) (a' := ?_) #[true, true, false, true, true, false, false, false, false, false, false] rfl rfl (any_of HT_.out (by kernel_rfl)) (fun _ _ _ h => h) (Or.inl ⟨by rfl, ?_⟩) ?_ ?_
                        rotate_left
                        · intro w'
                          go_simp
                          with_reducible rfl
                        rotate_left
                        · simp only [Act.put, List.setIfInBounds_toArray, List.set_cons_zero, List.set_cons_succ, i64_w, i32_w]
                          rfl
                        refine take_ (i := 2) (N := some 41) (v := ?_) (a' := ?_) #[true, true, true, true, true, false, false, false, false, false, false] rfl rfl (take_ofW HT_.out HW_.out (by kernel_rfl)) (fun _ _ _ h => h) (Or.inl ⟨by rfl, ?_⟩) hHeld ?_ ?_
                        rotate_left
                        · rintro w' ⟨s0, s1⟩
                          go_simp
                          with_reducible rfl
                        rotate_left
                        · simp only [Act.put, List.setIfInBounds_toArray, List.set_cons_zero, List.set_cons_succ, i64_w, i32_w]
                          rfl
                        refine one_ (i := 5) (N := some 44) #[true, true, true, true, true, true, false, false, false, false, false] rfl rfl (one_of HT_.out (by kernel_rfl)) (by decide) (fun K hK => ?_)
                        refine goes_ Try.func48 (by kernel_rfl) rfl #[.agg #[.int .i64 ((rd_T54 l0 0).f0), .string ((rd_T54 l0 0).f1)], .slice A31 y112.length c31] (by rfl) rfl rfl (by (try simp only [List.map_toArray, List.map_cons, List.map_nil]); first | done | rfl | (simp only [List.length_drop, List.length_take]; rfl)) ?_
                        with_reducible refine (secateurref06_Desc.calls ((rd_T54 l0 0).f0) ((rd_T54 l0 0).f1) _ _ y112 t116 t117 _ ?side1 ?side2 A13.out).mono ?_
                        (case side1 => repeat (first | exact (Kd.C_below HR115.out HB.out) | (with_reducible refine Kd.C_alloc ?_ _) | (with_reducible refine Kd.C_drewN ?_ _) | (with_reducible refine Kd.C_drew ?_)))
                        (case side2 => exact HC115.out)
                        rintro e w32 ⟨rfl, hb⟩
                        (try clear hcut31)
                        refine ⟨_, rfl, ?_⟩
                        have n0_ := Aside0.mk (below_step (by repeat (first | (with_reducible first | exact HB.out | apply below_alloc | apply pw_below_drewN | apply below_drew1) | exact HB.out)) hb)
                        clear HB
                        have HB := n0_
                        clear n0_
                        (try clear hb)
                        (try clear hb2)
                        (try clear hk)
                        (try clear hi)
                        refine hK.out _ _ ⟨((HB.out.cell (World.block_lt_of_cell? w _ hw111_0)).trans hw111_0), ((HB.out.cell (World.block_lt_of_cell? w _ hw111_1)).trans hw111_1)⟩ (fun hHeld => ?_)
                        clear hK K
                        refine norm_ (a' := ?_) ?_ ?_
                        rotate_left
                        · show Act.put _ (some 44) _ = _
                          simp only [Act.put, List.setIfInBounds_toArray, List.set_cons_zero, List.set_cons_succ, i64_w, i32_w]
                          rfl
                        refine pure_ (i := 6) (N := some 38) (v := ?_) (a' := ?_) #[true, true, true, true, true, true, true, false, false, false, false] rfl rfl (any_of HT_.out (by kernel_rfl)) (fun _ _ _ h => h) (Or.inl ⟨by rfl, ?_⟩) ?_ ?_
                        rotate_left
                        · intro w'
                          go_simp
                          with_reducible rfl
                        rotate_left
                        · simp only [Act.put, List.setIfInBounds_toArray, List.set_cons_zero, List.set_cons_succ, i64_w, i32_w]
                          rfl
                        refine pure_ (i := 7) (N := some 45) (v := ?_) (a' := ?_) #[true, true, true, true, true, true, true, true, false, false, false] rfl rfl (any_of HT_.out (by kernel_rfl)) (fun _ _ _ h => h) (Or.inl ⟨by rfl, ?_⟩) ?_ ?_
                        rotate_left
                        · intro w'
                          go_simp
                          with_reducible rfl
                        rotate_left
                        · simp only [Act.put, List.setIfInBounds_toArray, List.set_cons_zero, List.set_cons_succ, i64_w, i32_w]
                          rfl
                        refine pure_ (i := 8) (N := some 46) (v := ?_) (a' := ?_) #[true, true, true, true, true, true, true, true, true, false, false] rfl rfl (any_of HT_.out (by kernel_rfl)) (fun _ _ _ h => h) (Or.inl ⟨by rfl, ?_⟩) ?_ ?_
                        rotate_left
                        · intro w'
                          go_simp
                          with_reducible rfl
                        rotate_left
                        · simp only [Act.put, List.setIfInBounds_toArray, List.set_cons_zero, List.set_cons_succ, i64_w, i32_w]
                          rfl
                        refine pure_ (i := 9) (N := some 7) (v := ?_) (a' := ?_) #[true, true, true, true, true, true, true, true, true, true, false] rfl rfl (any_of HT_.out (by kernel_rfl)) (fun _ _ _ h => h) (Or.inl ⟨by rfl, ?_⟩) ?_ ?_
                        rotate_left
                        · intro w'
                          go_simp
                          with_reducible rfl
                        rotate_left
                        · simp only [Act.put, List.setIfInBounds_toArray, List.set_cons_zero, List.set_cons_succ, i64_w, i32_w]
                          rfl
                        refine pure_ (i := 10) (N := some 8) (v := ?_) (a' := ?_) #[true, true, true, true, true, true, true, true, true, true, true] rfl rfl (any_of HT_.out (by kernel_rfl)) (fun _ _ _ h => h) (Or.inl ⟨by rfl, ?_⟩) ?_ ?_
                        rotate_left
                        · intro w'
                          go_simp
                          with_reducible rfl
                        rotate_left
                        · simp only [Act.put, List.setIfInBounds_toArray, List.set_cons_zero, List.set_cons_succ, i64_w, i32_w]
                          rfl
                        refine done_ (done_of HT_.out (by kernel_rfl)) ?_
                        try go_wp2_with (first | ((with_reducible refine gate_callee (f := 42) rfl ?_); refine goesL_ (some 49) rfl rfl Try.func42 (by kernel_rfl) rfl #[.string a1] rfl (by (try simp only [List.map_toArray, List.map_cons, List.map_nil]); first | done | rfl | (simp only [List.length_drop, List.length_take]; rfl)) ?_; (with_reducible refine (kind_Split.calls a1 t118 t121 t122 t123 _ ?side1 A14.out).mono ?_); (case side1 => exact MaxL.below HGMaxL.out (by repeat (first | (with_reducible first | exact HB.out | apply below_alloc | apply pw_below_drewN | apply below_drew1) | exact HB.out))); rintro e w33 ⟨v119, rfl, ho0, hb⟩; refine ⟨_, rfl, ?_⟩; have n0_ := Aside0.mk (Kd.R_lower ho0 (below_size (by repeat (first | (with_reducible first | exact HB.out | apply below_alloc | apply pw_below_drewN | apply below_drew1) | exact HB.out)))); have n1_ := Aside0.mk (below_step (by repeat (first | (with_reducible first | exact HB.out | apply below_alloc | apply pw_below_drewN | apply below_drew1) | exact HB.out)) hb); clear HB; have HO120 := n0_; have HB := n1_; clear n0_ n1_; (try clear hb); (try clear hb2); (try clear hk); (try clear hi); (try clear ho0)) | ((with_reducible refine gate_dst (N := 10) rfl ?_); (try (refine gate_guard (by rfl) ?_; dsimp only)); refine box_event ?hg (N := 10) ?hd (cs := #[.int .i64 0, .string (⟨#[]⟩ : ByteArray)]) (t := 54) ?hr ?_; (case hd => rfl); (case hg => rfl); (case hr => first | (go_simp; done) | (go_simp; rfl)); intro gb124 hg w34 hbox hb; have n0_ := Aside0.mk (Kd.R_below (Kd.R_elderB (by (with_reducible repeat (first | apply Kd.R_alloc | apply Kd.R_drewN | apply Kd.R_drew)); exact HO120.out) gb124 (Nat.le_of_eq hg.symm)) hb); have n1_ := Aside0.mk (below_step (by repeat (first | (with_reducible first | exact HB.out | apply below_alloc | apply pw_below_drewN | apply below_drew1) | exact HB.out)) hb); have n2_ := Aside0.mk (hbox); have n3_ := Aside0.mk ((by rw [hg]; exact (below_size (by repeat (first | (with_reducible first | exact HB.out | apply below_alloc | apply pw_below_drewN | apply below_drew1) | exact HB.out))) : w.heap.size ≤ gb124)); have n4_ := Aside0.mk ((by rw [hg]; exact (below_size (by repeat (first | (with_reducible first | exact HB.out | apply below_alloc | apply pw_below_drewN | apply below_drew1) | exact HB.out))) : w.heap.size ≤ gb124)); clear HO120; clear HB; have HO120 := n0_; have HB := n1_; have BK124 := n2_; have GW124 := n3_; have GE124 := n4_; clear n0_ n1_ n2_ n3_ n4_; clear hb hbox hg; have hcz35_0 : w34.cell? ⟨gb124, 0, none⟩ = some (.int .i64 0) := (blk_cell BK124.out 0).trans rfl; have hcz35_1 : w34.cell? ⟨gb124, 1, none⟩ = some (.string (⟨#[]⟩ : ByteArray)) := (blk_cell BK124.out 1).trans rfl; have hfz35_0 := blk_frozen BK124.out 0; have hfz35_1 := blk_frozen BK124.out 1) | ((with_reducible refine gate_callee (f := 49) rfl ?_); refine goesL_ (some 55) rfl rfl Try.func49 (by kernel_rfl) rfl #[.string a1] rfl (by (try simp only [List.map_toArray, List.map_cons, List.map_nil]); first | done | rfl | (simp only [List.length_drop, List.length_take]; rfl)) ?_; (with_reducible refine (secateurref06_Split.calls a1 t125 t128 t129 t130 _ A15.out).mono ?_); rintro e w36 ⟨v126, rfl, ho0, hb⟩; refine ⟨_, rfl, ?_⟩; have n0_ := Aside0.mk (Kd.R_elder' (by (with_reducible repeat (first | apply Kd.R_alloc | apply Kd.R_drewN | apply Kd.R_drew)); exact (Kd.R_mono (Kd.R_far (p := ⟨gb124, 1, none⟩) (Kd.R_far (p := ⟨gb124, 0, none⟩) (Kd.R_mono HO120.out (fun k_ hk => (⟨hk, hk.2⟩ : _ ∧ k_ ≠ gb124))) (fun _ hk => hk.2) (.int .i64 t121)) (fun _ hk => hk.2) (.string t122)) (fun _ h_ => h_.1))) (Kd.R_base ho0) hb); have n1_ := Aside0.mk (Kd.R_lower (Kd.R_newB (Kd.R_new' ho0 (Kd.R_lt (by (with_reducible repeat (first | apply Kd.R_alloc | apply Kd.R_drewN | apply Kd.R_drew)); exact (Kd.R_mono (Kd.R_far (p := ⟨gb124, 1, none⟩) (Kd.R_far (p := ⟨gb124, 0, none⟩) (Kd.R_mono HO120.out (fun k_ hk => (⟨hk, hk.2⟩ : _ ∧ k_ ≠ gb124))) (fun _ hk => hk.2) (.int .i64 t121)) (fun _ hk => hk.2) (.string t122)) (fun _ h_ => h_.1))))) (g := gb124) (o := .cells #[.int .i64 t121, .string t122] 54 (0, 0)) (by (with_reducible repeat (first | refine blk_drewN ?_ _ | refine blk_drew ?_ | refine blk_alloc ?_ _)); refine blk_put (cs := #[.int .i64 t121, .string (⟨#[]⟩ : ByteArray)]) ?_ 1 _ rfl; (with_reducible repeat (first | refine blk_drewN ?_ _ | refine blk_drew ?_ | refine blk_alloc ?_ _)); refine blk_put (cs := #[.int .i64 0, .string (⟨#[]⟩ : ByteArray)]) ?_ 0 _ rfl; (with_reducible repeat (first | refine blk_drewN ?_ _ | refine blk_drew ?_ | refine blk_alloc ?_ _)); exact BK124.out)) (below_size (by repeat (first | (with_reducible first | exact HB.out | apply below_alloc | apply pw_below_drewN | apply below_drew1 | refine below_set ?_ GE124.out) | exact HB.out)))); have n2_ := Aside0.mk (blk_below (g := gb124) (o := .cells #[.int .i64 t121, .string t122] 54 (0, 0)) (by (with_reducible repeat (first | refine blk_drewN ?_ _ | refine blk_drew ?_ | refine blk_alloc ?_ _)); refine blk_put (cs := #[.int .i64 t121, .string (⟨#[]⟩ : ByteArray)]) ?_ 1 _ rfl; (with_reducible repeat (first | refine blk_drewN ?_ _ | refine blk_drew ?_ | refine blk_alloc ?_ _)); refine blk_put (cs := #[.int .i64 0, .string (⟨#[]⟩ : ByteArray)]) ?_ 0 _ rfl; (with_reducible repeat (first | refine blk_drewN ?_ _ | refine blk_drew ?_ | refine blk_alloc ?_ _)); exact BK124.out) hb); have n3_ := Aside0.mk (below_step (by repeat (first | (with_reducible first | exact HB.out | apply below_alloc | apply pw_below_drewN | apply below_drew1 | refine below_set ?_ GE124.out) | exact HB.out)) hb); clear HO120; clear BK124; clear HB; have HO120 := n0_; have HO127 := n1_; have BK124 := n2_; have HB := n3_; clear n0_ n1_ n2_ n3_; (try clear hb); (try clear hb2); (try clear hk); (try clear hi); (try clear ho0)) | ((with_reducible refine gate_dst (N := 13) rfl ?_); (try (refine gate_guard (by rfl) ?_; dsimp only)); refine box_event ?hg (N := 13) ?hd (cs := #[.int .i64 0, .string (⟨#[]⟩ : ByteArray)]) (t := 54) ?hr ?_; (case hd => rfl); (case hg => rfl); (case hr => first | (go_simp; done) | (go_simp; rfl)); intro gb131 hg w37 hbox hb; have n0_ := Aside0.mk (Kd.R_below (Kd.R_elderB (by (with_reducible repeat (first | apply Kd.R_alloc | apply Kd.R_drewN | apply Kd.R_drew)); exact HO120.out) gb131 (Nat.le_of_eq hg.symm)) hb); have n1_ := Aside0.mk (Kd.R_below (Kd.R_elderB (by (with_reducible repeat (first | apply Kd.R_alloc | apply Kd.R_drewN | apply Kd.R_drew)); exact HO127.out) gb131 (Nat.le_of_eq hg.symm)) hb); have n2_ := Aside0.mk (blk_below (g := gb124) (o := .cells #[.int .i64 t121, .string t122] 54 (0, 0)) (by (with_reducible repeat (first | refine blk_drewN ?_ _ | refine blk_drew ?_ | refine blk_alloc ?_ _)); exact BK124.out) hb); have n3_ := Aside0.mk (below_step (by repeat (first | (with_reducible first | exact HB.out | apply below_alloc | apply pw_below_drewN | apply below_drew1 | refine below_set ?_ GE124.out) | exact HB.out)) hb); have n4_ := Aside0.mk (hbox); have n5_ := Aside0.mk ((by rw [hg]; exact (below_size (by repeat (first | (with_reducible first | exact HB.out | apply below_alloc | apply pw_below_drewN | apply below_drew1 | refine below_set ?_ GE124.out) | exact HB.out))) : w.heap.size ≤ gb131)); have n6_ := Aside0.mk ((by rw [hg]; exact (below_size (by repeat (first | (with_reducible first | exact HB.out | apply below_alloc | apply pw_below_drewN | apply below_drew1 | refine below_set ?_ GE124.out) | exact HB.out))) : w.heap.size ≤ gb131)); have n7_ := Aside0.mk ((by rw [hg]; exact Nat.ne_of_lt (blk_lt (g := gb124) (o := .cells #[.int .i64 t121, .string t122] 54 (0, 0)) (by (with_reducible repeat (first | refine blk_drewN ?_ _ | refine blk_drew ?_ | refine blk_alloc ?_ _)); exact BK124.out)) : gb124 ≠ gb131)); have n8_ := Aside0.mk ((by rw [hg]; exact Nat.ne_of_gt (blk_lt (g := gb124) (o := .cells #[.int .i64 t121, .string t122] 54 (0, 0)) (by (with_reducible repeat (first | refine blk_drewN ?_ _ | refine blk_drew ?_ | refine blk_alloc ?_ _)); exact BK124.out)) : gb131 ≠ gb124)); clear HO120; clear HO127; clear BK124; clear HB; have HO120 := n0_; have HO127 := n1_; have BK124 := n2_; have HB := n3_; have BK131 := n4_; have GW131 := n5_; have GE131 := n6_; have NB124_131 := n7_; have NB131_124 := n8_; clear n0_ n1_ n2_ n3_ n4_ n5_ n6_ n7_ n8_; clear hb hbox hg; have hnb38 := NB131_124.out; have hnc38 := NB124_131.out; have hcz39_0 : w37.cell? ⟨gb131, 0, none⟩ = some (.int .i64 0) := (blk_cell BK131.out 0).trans rfl; have hcz39_1 : w37.cell? ⟨gb131, 1, none⟩ = some (.string (⟨#[]⟩ : ByteArray)) := (blk_cell BK131.out 1).trans rfl; have hfz39_0 := blk_frozen BK131.out 0; have hfz39_1 := blk_frozen BK131.out 1) | ((with_reducible refine gate_callee (f := 30) rfl ?_); refine goesL_ (some 59) rfl rfl Try.func30 (by kernel_rfl) rfl #[] rfl (by (try simp only [List.map_toArray, List.map_cons, List.map_nil]); first | done | rfl | (simp only [List.length_drop, List.length_take]; rfl)) ?_; (with_reducible refine (secateurlaw06_live.calls  true _ ?side1 A16.out).mono ?_); (case side1 => exact MaxL.below HGMaxL.out (by repeat (first | (with_reducible first | exact HB.out | apply below_alloc | apply pw_below_drewN | apply below_drew1 | refine below_set ?_ GE124.out | refine below_set ?_ GE131.out) | exact HB.out))); rintro e w40 ⟨rfl, hb⟩; refine ⟨_, rfl, ?_⟩; have n0_ := Aside0.mk (Kd.R_below (by (with_reducible repeat (first | apply Kd.R_alloc | apply Kd.R_drewN | apply Kd.R_drew)); exact (Kd.R_mono (Kd.R_far (p := ⟨gb131, 1, none⟩) (Kd.R_far (p := ⟨gb131, 0, none⟩) (Kd.R_mono HO120.out (fun k_ hk => (⟨hk, hk.2⟩ : _ ∧ k_ ≠ gb131))) (fun _ hk => hk.2) (.int .i64 t128)) (fun _ hk => hk.2) (.string t129)) (fun _ h_ => h_.1))) hb); have n1_ := Aside0.mk (Kd.R_below (by (with_reducible repeat (first | apply Kd.R_alloc | apply Kd.R_drewN | apply Kd.R_drew)); exact (Kd.R_mono (Kd.R_far (p := ⟨gb131, 1, none⟩) (Kd.R_far (p := ⟨gb131, 0, none⟩) (Kd.R_mono HO127.out (fun k_ hk => (⟨hk, hk.2⟩ : _ ∧ k_ ≠ gb131))) (fun _ hk => hk.2) (.int .i64 t128)) (fun _ hk => hk.2) (.string t129)) (fun _ h_ => h_.1))) hb); have n2_ := Aside0.mk (blk_below (g := gb124) (o := .cells #[.int .i64 t121, .string t122] 54 (0, 0)) (by (with_reducible repeat (first | refine blk_drewN ?_ _ | refine blk_drew ?_ | refine blk_alloc ?_ _)); refine blk_far ?_ NB124_131.out _; (with_reducible repeat (first | refine blk_drewN ?_ _ | refine blk_drew ?_ | refine blk_alloc ?_ _)); refine blk_far ?_ NB124_131.out _; (with_reducible repeat (first | refine blk_drewN ?_ _ | refine blk_drew ?_ | refine blk_alloc ?_ _)); exact BK124.out) hb); have n3_ := Aside0.mk (blk_below (g := gb131) (o := .cells #[.int .i64 t128, .string t129] 54 (0, 0)) (by (with_reducible repeat (first | refine blk_drewN ?_ _ | refine blk_drew ?_ | refine blk_alloc ?_ _)); refine blk_put (cs := #[.int .i64 t128, .string (⟨#[]⟩ : ByteArray)]) ?_ 1 _ rfl; (with_reducible repeat (first | refine blk_drewN ?_ _ | refine blk_drew ?_ | refine blk_alloc ?_ _)); refine blk_put (cs := #[.int .i64 0, .string (⟨#[]⟩ : ByteArray)]) ?_ 0 _ rfl; (with_reducible repeat (first | refine blk_drewN ?_ _ | refine blk_drew ?_ | refine blk_alloc ?_ _)); exact BK131.out) hb); have n4_ := Aside0.mk (below_step (by repeat (first | (with_reducible first | exact HB.out | apply below_alloc | apply pw_below_drewN | apply below_drew1 | refine below_set ?_ GE124.out | refine below_set ?_ GE131.out) | exact HB.out)) hb); clear HO120; clear HO127; clear BK124; clear BK131; clear HB; have HO120 := n0_; have HO127 := n1_; have BK124 := n2_; have BK131 := n3_; have HB := n4_; clear n0_ n1_ n2_ n3_ n4_; (try clear hb); (try clear hb2); (try clear hk); (try clear hi); obtain ⟨Ao41, co41, eo41⟩ := Kd.R_slice HO120.out; subst eo41; obtain ⟨Ao42, co42, eo42⟩ := Kd.R_slice HO127.out; subst eo42) | (go_at_call 43; (with_reducible refine (secateurref06_SameTypes.calls _ _ t118 _ _ t125 true _ ?side1 ?side2 ?side3 ?side4 A20.out).mono ?_); (case side1 => repeat (first | exact (Kd.R_reads' HO120.out).2.2 | (with_reducible refine Kd.C_alloc ?_ _) | (with_reducible refine Kd.C_drewN ?_ _) | (with_reducible refine Kd.C_drew ?_))); (case side2 => exact (Kd.R_reads' HO120.out).2.1); (case side3 => repeat (first | exact (Kd.R_reads' HO127.out).2.2 | (with_reducible refine Kd.C_alloc ?_ _) | (with_reducible refine Kd.C_drewN ?_ _) | (with_reducible refine Kd.C_drew ?_))); (case side4 => exact (Kd.R_reads' HO127.out).2.1); rintro e w' ⟨rfl, ⟨nd, rfl⟩⟩; have hcz43_0 : w40.cell? ⟨gb124, 0, none⟩ = some (.int .i64 t121) := (blk_cell BK124.out 0).trans rfl; have hcz43_1 : w40.cell? ⟨gb124, 1, none⟩ = some (.string t122) := (blk_cell BK124.out 1).trans rfl; have hfz43_0 := blk_frozen BK124.out 0; have hfz43_1 := blk_frozen BK124.out 1; have hcz44_0 : w40.cell? ⟨gb131, 0, none⟩ = some (.int .i64 t128) := (blk_cell BK131.out 0).trans rfl; have hcz44_1 : w40.cell? ⟨gb131, 1, none⟩ = some (.string t129) := (blk_cell BK131.out 1).trans rfl; have hfz44_0 := blk_frozen BK131.out 0; have hfz44_1 := blk_frozen BK131.out 1) | (go_at_call 51; (with_reducible refine (kind_Classes.calls a1 t134 _ ?side1 A24.out).mono ?_); (case side1 => exact MaxL.below HGMaxL.out (by repeat (first | (with_reducible first | exact HB.out | apply below_alloc | apply pw_below_drewN | apply below_drew1 | refine below_set ?_ GE124.out | refine below_set ?_ GE131.out) | exact HB.out))); rintro e w45 ⟨v135, rfl, ho0, hb⟩; have n0_ := Aside0.mk (Kd.R_below (by (with_reducible repeat (first | apply Kd.R_alloc | apply Kd.R_drewN | apply Kd.R_drew)); exact HO120.out) hb); have n1_ := Aside0.mk (Kd.R_below (by (with_reducible repeat (first | apply Kd.R_alloc | apply Kd.R_drewN | apply Kd.R_drew)); exact HO127.out) hb); have n2_ := Aside0.mk (Kd.R_lower ho0 (below_size (by repeat (first | (with_reducible first | exact HB.out | apply below_alloc | apply pw_below_drewN | apply below_drew1 | refine below_set ?_ GE124.out | refine below_set ?_ GE131.out) | exact HB.out)))); have n3_ := Aside0.mk (blk_below (g := gb124) (o := .cells #[.int .i64 t121, .string t122] 54 (0, 0)) (by (with_reducible repeat (first | refine blk_drewN ?_ _ | refine blk_drew ?_ | refine blk_alloc ?_ _)); exact BK124.out) hb); have n4_ := Aside0.mk (blk_below (g := gb131) (o := .cells #[.int .i64 t128, .string t129] 54 (0, 0)) (by (with_reducible repeat (first | refine blk_drewN ?_ _ | refine blk_drew ?_ | refine blk_alloc ?_ _)); exact BK131.out) hb); have n5_ := Aside0.mk (below_step (by repeat (first | (with_reducible first | exact HB.out | apply below_alloc | apply pw_below_drewN | apply below_drew1 | refine below_set ?_ GE124.out | refine below_set ?_ GE131.out) | exact HB.out)) hb); clear HO120; clear HO127; clear BK124; clear BK131; clear HB; have HO120 := n0_; have HO127 := n1_; have HO136 := n2_; have BK124 := n3_; have BK131 := n4_; have HB := n5_; clear n0_ n1_ n2_ n3_ n4_ n5_; (try clear hb); (try clear hb2); (try clear hk); (try clear hi); (try clear ho0)) | (go_at_call 52; (with_reducible refine (secateurref06_Classes.calls a1 t137 _ A25.out).mono ?_); rintro e w46 ⟨v138, rfl, ho0, hb⟩; have n0_ := Aside0.mk (Kd.R_below (by (with_reducible repeat (first | apply Kd.R_alloc | apply Kd.R_drewN | apply Kd.R_drew)); exact HO120.out) hb); have n1_ := Aside0.mk (Kd.R_below (by (with_reducible repeat (first | apply Kd.R_alloc | apply Kd.R_drewN | apply Kd.R_drew)); exact HO127.out) hb); have n2_ := Aside0.mk (Kd.R_elder' (by (with_reducible repeat (first | apply Kd.R_alloc | apply Kd.R_drewN | apply Kd.R_drew)); exact HO136.out) (Kd.R_base ho0) hb); have n3_ := Aside0.mk (Kd.R_lower (Kd.R_new' ho0 (Kd.R_lt (by (with_reducible repeat (first | apply Kd.R_alloc | apply Kd.R_drewN | apply Kd.R_drew)); exact HO136.out))) (below_size (by repeat (first | (with_reducible first | exact HB.out | apply below_alloc | apply pw_below_drewN | apply below_drew1 | refine below_set ?_ GE124.out | refine below_set ?_ GE131.out) | exact HB.out)))); have n4_ := Aside0.mk (blk_below (g := gb124) (o := .cells #[.int .i64 t121, .string t122] 54 (0, 0)) (by (with_reducible repeat (first | refine blk_drewN ?_ _ | refine blk_drew ?_ | refine blk_alloc ?_ _)); exact BK124.out) hb); have n5_ := Aside0.mk (blk_below (g := gb131) (o := .cells #[.int .i64 t128, .string t129] 54 (0, 0)) (by (with_reducible repeat (first | refine blk_drewN ?_ _ | refine blk_drew ?_ | refine blk_alloc ?_ _)); exact BK131.out) hb); have n6_ := Aside0.mk (below_step (by repeat (first | (with_reducible first | exact HB.out | apply below_alloc | apply pw_below_drewN | apply below_drew1 | refine below_set ?_ GE124.out | refine below_set ?_ GE131.out) | exact HB.out)) hb); clear HO120; clear HO127; clear HO136; clear BK124; clear BK131; clear HB; have HO120 := n0_; have HO127 := n1_; have HO136 := n2_; have HO139 := n3_; have BK124 := n4_; have BK131 := n5_; have HB := n6_; clear n0_ n1_ n2_ n3_ n4_ n5_ n6_; (try clear hb); (try clear hb2); (try clear hk); (try clear hi); (try clear ho0); obtain ⟨Ao47, co47, eo47⟩ := Kd.R_slice HO136.out; subst eo47; obtain ⟨Ao48, co48, eo48⟩ := Kd.R_slice HO139.out; subst eo48) | (go_at_call 50; (with_reducible refine (secateurref01_SameTexts.calls kj2 _ _ t134 _ _ t137 t140 _ ?side1 ?side2 ?side3 ?side4 A26.out).mono ?_); (case side1 => repeat (first | exact (Kd.R_reads' HO136.out).2.2 | (with_reducible refine Kd.C_alloc ?_ _) | (with_reducible refine Kd.C_drewN ?_ _) | (with_reducible refine Kd.C_drew ?_))); (case side2 => exact (Kd.R_reads' HO136.out).2.1); (case side3 => repeat (first | exact (Kd.R_reads' HO139.out).2.2 | (with_reducible refine Kd.C_alloc ?_ _) | (with_reducible refine Kd.C_drewN ?_ _) | (with_reducible refine Kd.C_drew ?_))); (case side4 => exact (Kd.R_reads' HO139.out).2.1); rintro e w' ⟨rfl, ⟨nd, rfl⟩⟩))
                        go_ret
                        exact ⟨by first | rfl | (simp [errW_none, errW_some] <;> rfl) | (simp [*, errW_none, errW_some] <;> rfl), by repeat (first | (with_reducible first | exact HB.out | apply below_alloc | apply pw_below_drewN | apply below_drew1 | refine below_set ?_ GE124.out | refine below_set ?_ GE131.out) | exact HB.out)⟩
                      · rw [if_neg c23] at H
                        exact absurd ((Option.some.inj H).trans HRT.out) (by decide)
                    · rw [if_neg c22] at H
                      exact absurd ((Option.some.inj H).trans HRT.out) (by decide)
                  · replace c21 := Bool.eq_false_iff.mpr c21
                    subst c21
                    have H1 : (some false) = some r := by rw [if_neg (show ¬ (false = true) by decide)] at H; exact H
                    exact absurd ((Option.some.inj H1).trans HRT.out) (by decide)
                · rw [if_neg c19] at H
                  exact absurd ((Option.some.inj H).trans HRT.out) (by decide)
              · rw [if_neg c18] at H
                exact absurd ((Option.some.inj H).trans HRT.out) (by decide)
            · replace c17 := Bool.eq_false_iff.mpr c17
              subst c17
              have H1 : (some false) = some r := by rw [if_neg (show ¬ (false = true) by decide)] at H; exact H
              exact absurd ((Option.some.inj H1).trans HRT.out) (by decide)
          · rw [if_neg c10] at H
            exact absurd H (by simp)
        · rw [if_neg c9] at H
          exact absurd H (by simp)

end Go.Proofs.Ytcbakmojhicahaa.PKindDescs
end

section
-- Written by this session's program layer.py (the kit's print, turned), not by hand.
namespace Go.Proofs.Ytcbakmojhicahaa.PKindDescs
open Go.RowKit Go.Proofs.YtcbakmojhicahaaW.PrintWords Go.Proofs.YtcbakmojhicahaaW.PrintLast Go.Proofs.YtcbakmojhicahaaW.PrintMore Go.Proofs.Ytcbakmojhicahaa.Hand
attribute [local go_sem] max2_int min2_int max_two min_two max_three min_three max_four min_four   -- for this text's walks alone
set_option linter.unusedVariables false
set_option linter.unusedSimpArgs false

end Go.Proofs.Ytcbakmojhicahaa.PKindDescs
end

section
namespace Go.Proofs.Ytcbakmojhicahaa.Pure
open Go.RowKit Go.Proofs.Ytcbakmojhicahaa.PKindDescs Go.Proofs.Ytcbakmojhicahaa.Hand Go.Proofs.YtcbakmojhicahaaW.PrintWords Go.Proofs.YtcbakmojhicahaaW.PrintLast
set_option linter.unusedVariables false

theorem same_texts (l : List ByteArray) (hl : l.length ≤ 4611686018427387903) : ∀ (d i k : Nat), l.length - i = d → i ≤ l.length → d < k → secateurref01_SameTexts.l0 k l l (i : Int) = some true := by
  intro d
  induction d with
  | zero =>
    intro i k hd hi hk
    obtain ⟨k, rfl⟩ : ∃ j, k = j + 1 := ⟨k - 1, by omega⟩
    rw [secateurref01_SameTexts.l0, if_neg (by omega)]
  | succ d ih =>
    intro i k hd hi hk
    obtain ⟨k, rfl⟩ : ∃ j, k = j + 1 := ⟨k - 1, by omega⟩
    have hw : wrap64 ((i : Int) + 1) = ((i + 1 : Nat) : Int) := by rw [wrap_in (by omega) (by omega)]; omega
    rw [secateurref01_SameTexts.l0, if_pos (by omega), if_pos (by omega), if_pos (by omega), if_pos rfl, hw]
    exact ih (i + 1) k (by omega) (by omega) (by omega)
theorem KindDescs (l0 : List (S54)) (a1 : ByteArray) (hs : ∀ x ∈ l0, x.f1.size ≤ 140737488355328) : ∃ k, secateurlaw06_KindDescs.f k l0 a1 = some true := by
  refine ⟨100, ?_⟩
  unfold secateurlaw06_KindDescs.f
  by_cases h0 : l0.length = 0
  · rw [if_pos (by omega)]
    rfl
  · rw [if_neg (by omega)]
    by_cases h1 : l0.length > 40
    · rw [if_pos (by omega)]
      rfl
    · rw [if_neg (by omega)]
      by_cases h2 : a1.size > 2000
      · rw [decide_eq_true (show (a1.size : Int) > 2000 by omega)]
        rfl
      · rw [decide_eq_false (show ¬ (a1.size : Int) > 2000 by omega), secateurlaw06_KindDescs.j0, if_neg (by decide), if_pos (by omega), if_pos (by omega)]
        have hsz : (rd_T54 l0 0).f1.size ≤ 140737488355328 := by
          have h := rdT_get l0 0 (by omega)
          rw [show ((0 : Nat) : Int) = 0 from rfl] at h
          rw [h]
          exact hs _ (List.getElem_mem _)
        have hsh : shortS (l0.drop 1) = true := List.all_eq_true.2 fun x hx => decide_eq_true (hs x (List.mem_of_mem_drop hx))
        have hln : (l0.drop 1).length ≤ 1048576 := by rw [List.length_drop]; omega
        have hcl := (split_short (bl a1)).1
        unfold secateurlaw06_live.f kind_Desc.f secateurref06_Desc.f kind_Split.f secateurref06_Split.f secateurref06_SameTypes.f kind_Classes.f secateurref06_Classes.f
        rw [if_pos (show (rd_T54 l0 0).f1.size ≤ 140737488355328 ∧ (l0.drop 1).length ≤ 1048576 ∧ shortS (l0.drop 1) = true from ⟨hsz, hln, hsh⟩)]
        simp only [Option.bind_some, if_pos (show a1.size ≤ 1048576 by omega), if_true]
        rw [if_pos (show ((splitD classL (bl a1)).1.map toS).length ≤ 4611686018427387903 by rw [List.length_map]; omega)]
        have hc : ((classesD classL (bl a1)).map lb).length ≤ 9 := by
          rw [List.length_map]
          unfold classesD
          obtain ⟨ps, t, e, hq⟩ : ∃ ps t e, splitD classL (bl a1) = (ps, t, e) := ⟨_, _, _, rfl⟩
          rw [hq] at hcl ⊢
          simp only at hcl ⊢
          split
          · refine Nat.le_trans (List.length_filter_le _ _) ?_
            rw [List.length_map, List.length_append]
            simp
            omega
          · simp
        have hst : secateurref01_SameTexts.f 99 ((classesD classL (bl a1)).map lb) ((classesD classL (bl a1)).map lb) = some true := by
          unfold secateurref01_SameTexts.f
          rw [if_pos rfl]
          exact same_texts _ (by omega) _ 0 99 rfl (by omega) (by omega)
        simp [hst]
end Go.Proofs.Ytcbakmojhicahaa.Pure
end
