import Derived.Test.YtaokkkolbifdpaaGreatDoorMgLegendTexts0
import Derived.Test.YtaokkkolbifdpaaGreatDoorRows
import Derived.ProofKit
import Derived.JoinedCond
import Derived.KernelRfl
import Derived.Test.YtaokkkolbifdpaaGreatDoorProg
import Derived.Below
import Derived.Deep.Draws
import Derived.Deep.AppendLies
import Derived.Maps.AppendAt
import Derived.OwnWalk
import Derived.Laws.BytesArg
import Derived.Laws.MakeOwn
import Derived.Laws.OwnMore
import Derived.Deep.OwnRows
import Derived.Tactics
import Derived.Lib.ConvBytes
import Derived.Laws.Slices
import Derived.WalkKit
import Derived.RowKit3
import Derived.Deep.LoopGhost
import Derived.Deep.QuietTactic
import Derived.BigQuiet
import Derived.WideLaws
import Derived.Deep.DeepCutAuto
import Derived.Deep.CutBlock
import Derived.Deep.RegionHeld3
import Derived.Laws.Rows
import Derived.Lib.AppendStr
import Derived.ArgAppend
import Derived.Laws.IdiomCopy
import Derived.OrdersHeld
import Derived.Laws.BitsLemmas
import Derived.RowKit
import Derived.Shelf.Strings.Builder1
import Derived.Shelf.Strings.Builder2
import Derived.Shelf.Strings.OnBuilder
import Derived.Shelf.Small.Bits
import Derived.Shelf.Small.Strs
import Derived.Shelf.Strings.BuilderF
import Derived.Shelf.Strconv.Itoa0
import Derived.Shelf.Strings.Search1
import Derived.Shelf.Strings.Search2
import Derived.Shelf.Strings.Search3
import Derived.Shelf.Strings.Cut
import Derived.Shelf.Strings.Count
import Derived.Shelf.LaysM
import Derived.Shelf.Strings.Shaped
import Derived.Shelf.GgClosure.StringsIndexFunc
import Derived.Ground.GgwProg
import Derived.Shelf.GgClosure.StringsIndexFuncTop
import Derived.Shelf.GgClosure.StringsRunes
import Derived.Shelf.Strings.Prefix
import Derived.Shelf.Strings.Split
import Derived.Shelf.Unicode.Decode
import Derived.Shelf.Strings.RuneCount
import Derived.Shelf.Strings.Explode
import Derived.Shelf.Unicode.DecodeSlow
import Derived.Shelf.Unicode.DecodeAny
import Derived.Shelf.Strings.FuncGrows
import Derived.Lib.Hide
import Derived.Laws.CopyOwn
import Derived.Laws.Strings
import Derived.Maps.OwnIn
import Derived.IntWalk
import Derived.RangeFuncRecord
import Derived.RangeFuncBox
import Derived.Laws.RangeString
import Derived.Laws.RangeAny
import Derived.RangeFuncBound
import Derived.RangeFuncNested
import Derived.RangeFuncCalls
import Derived.RangeFuncLeaves
import Derived.Shelf.Abstract
import Derived.Shelf.RegionOpen
import Derived.OwnWalkIn
import Derived.TacticsInMore
import Derived.LoopNIn
import Derived.LoopIn
import Derived.BigRegionIn
import Derived.Shelf.Sort.Plain
import Derived.Shelf.Slices.CompactS
import Derived.Shelf.Slices.Cells
import Derived.Shelf.Slices.In.SortNone
import Derived.Sort.OwnSorted
import Derived.WalkSpells
import Derived.Recover
import Derived.Defers
import Derived.Laws.Pointers
import Derived.WalkSmall
set_option linter.unusedVariables false
set_option linter.unusedSimpArgs false
set_option maxHeartbeats 64000000
set_option maxRecDepth 100000
section
namespace Go.Proofs.YtaokkkolbifdpaaGreatDoor
open Go.RowKit Go.Proofs.YtaokkkolbifdpaaGreatDoorW
open PrintWords PrintLast PrintMore
theorem aq {P : Prop} (h : P) : Aside0 P := ⟨h⟩
theorem gS {P : Prop} (h : P := by first | (go_simp; done) | (go_simp; rfl)) : P := h
theorem ao {P : Prop} (h : Aside0 P := by with_reducible assumption) : P := h.out
theorem bH {P : Prop} (h : P := by repeat (first | (with_reducible first | exact HB.out | apply below_alloc | apply pw_below_drewN | apply below_drew1 | refine below_set ?_ ao) | exact HB.out)) : P := h
theorem RU {α : Type} {kd : Kd α} {t : TypeId} {W W' : World} {b : Nat} {ok : Nat → Prop} {v : Value} {xs : List α} (h : Kd.R kd t W b ok v xs)
  (u : Kd.R kd t W b ok v xs → Kd.R kd t W' b ok v xs:=by intro h_;(with_reducible repeat (first|apply Kd.R_alloc|apply Kd.R_drewN|apply Kd.R_drew));exact h_) : Kd.R kd t W' b ok v xs:=u h
theorem KU {W W' : World} {g : Nat} {o : Obj} (h : W.heap[g]? = some o)
  (u : W.heap[g]? = some o → W'.heap[g]? = some o:=by intro h_;(with_reducible repeat (first|refine blk_drewN ?_ _|refine blk_drew ?_|refine blk_alloc ?_ _));exact h_) : W'.heap[g]? = some o:=u h
theorem eA {P : Prop} (h : P := by (try simp only [List.map_toArray, List.map_cons, List.map_nil]); first | done | rfl | (simp only [List.length_drop, List.length_take]; rfl)) : P := h
theorem RF {α : Type} {kd : Kd α} {t : TypeId} {W : World} {b : Nat} {ok : Nat → Prop} {v : Value} {xs : List α} (g i : Nat) (h : Kd.R kd t W b ok v xs) (u : Value) (hok : ∀ k, ok k → k ≠ g := by exact fun _ hk => hk.2) : Kd.R kd t (W.setCell ⟨g, i, none⟩ u) b ok v xs := Kd.R_far (p := ⟨g, i, none⟩) h hok u
theorem aS {P : Prop} (h : P := by first | (with_reducible assumption) | assumption) : P := h
theorem eR {P : Prop} (h : P := by first | rfl | (simp <;> rfl) | (simp [*] <;> rfl)) : P := h
theorem eS {P : Prop} (h : P := by first | rfl | (simp; done) | (simp [*]; done)) : P := h
theorem dR {P : Prop} (h : P := by repeat (first | exact Drawn0.refl _ | apply Drawn0.step)) : P := h
theorem GN {w0 W : World} {g : Nat} (hg : g = W.heap.size) (h : Below w0.heap.size w0 W := by repeat (first | (with_reducible first | exact HB.out | apply below_alloc | apply pw_below_drewN | apply below_drew1 | refine below_set ?_ ao) | exact HB.out)) : w0.heap.size ≤ g := by rw [hg]; exact below_size h
theorem NL {W W' : World} {g k : Nat} {o : Obj} (hg : k = W'.heap.size) (h : Aside0 (W.heap[g]? = some o)) (u : W.heap[g]? = some o → W'.heap[g]? = some o := by intro h_; (with_reducible repeat (first | refine blk_drewN ?_ _ | refine blk_drew ?_ | refine blk_alloc ?_ _)); exact h_) : g ≠ k := by rw [hg]; exact Nat.ne_of_lt (blk_lt (u h.out))
theorem NG {W W' : World} {g k : Nat} {o : Obj} (hg : k = W'.heap.size) (h : Aside0 (W.heap[g]? = some o)) (u : W.heap[g]? = some o → W'.heap[g]? = some o := by intro h_; (with_reducible repeat (first | refine blk_drewN ?_ _ | refine blk_drew ?_ | refine blk_alloc ?_ _)); exact h_) : k ≠ g := (NL hg h u).symm
theorem RN {α : Type} {kd : Kd α} {t : TypeId} {W W' w' : World} {b : Nat} {ok : Nat → Prop} {v : Value} {xs : List α} (h : Aside0 (Kd.R kd t W b ok v xs)) (hb : Below W'.heap.size W' w')
  (u : Kd.R kd t W b ok v xs → Kd.R kd t W' b ok v xs:=by intro h_;(with_reducible repeat (first|apply Kd.R_alloc|apply Kd.R_drewN|apply Kd.R_drew));exact h_) : Aside0 (Kd.R kd t w' b ok v xs):=⟨Kd.R_below (u h.out) hb⟩
theorem KN {W W' w' : World} {g : Nat} {o : Obj} (h : Aside0 (W.heap[g]? = some o)) (hb : Below W'.heap.size W' w')
  (u : W.heap[g]? = some o → W'.heap[g]? = some o:=by intro h_;(with_reducible repeat (first|refine blk_drewN ?_ _|refine blk_drew ?_|refine blk_alloc ?_ _));exact h_) : Aside0 (w'.heap[g]? = some o):=⟨blk_below (u h.out) hb⟩
theorem CU {α : Type} {kd : Kd α} {W W' : World} {A : Option Addr} {n : Nat} {xs : List α} (h : Aside0 (Kd.C kd W A n xs))
  (u : Kd.C kd W A n xs → Kd.C kd W' A n xs:=by intro h_;repeat (first|exact (Kd.C_below h_ HB.out)|(with_reducible refine Kd.C_alloc ?_ _)|(with_reducible refine Kd.C_drewN ?_ _)|(with_reducible refine Kd.C_drew ?_))) : Kd.C kd W' A n xs:=u h.out
section
variable {P : Program} {ops : Array Oper} {Q : Exit → Act → World → Prop} {md : Region.Mode} {S : World → Prop} {ds : List Nat}
theorem pS {i : Nat} {N : Option Tmp} {oi : Oper} {v : Value} {fuel : Nat} {l : Array Bool} {a a' : Act} {w : World} (h : wpAnyLast P md ops Q S ds fuel (l.setIfInBounds i true) a' w) (hi : ops[i]? = some oi := by exact rfl) (hN : oi.dst = N := by exact rfl)
  (hc : anyB md ops l (l.setIfInBounds i true) i = true:=by exact any_of HT_.out (by kernel_rfl)) (hQ : ∀ c a w,Q (.panic c) (a.put oi.dst v) w → Q (.panic c) a w:=by exact fun _ _ _ h => h)
  (hy : Yields P ops oi v a:=by refine Or.inl ⟨by rfl,?_⟩;intro w';go_simp;with_reducible rfl)
  (ha : a.put N v = a':=by simp only [Act.put,List.setIfInBounds_toArray,List.set_cons_zero,List.set_cons_succ,i64_w,i32_w];rfl) : wpAnyLast P md ops Q S ds (fuel + 1) l a w:=pure_ _ hi hN hc hQ hy ha h
theorem pU {i : Nat} {N : Option Tmp} {oi : Oper} {fuel : Nat} {l : Array Bool} {a a' : Act} {w : World} (h : wpAnyLast P md ops Q S ds fuel (l.setIfInBounds i true) a' w) (hi : ops[i]? = some oi := by exact rfl) (hN : oi.dst = N := by exact rfl)
  (hc : anyB md ops l (l.setIfInBounds i true) i = true:=by exact any_of HT_.out (by kernel_rfl)) (hQ : ∀ c a w,Q (.panic c) (a.put oi.dst undef) w → Q (.panic c) a w:=by exact fun _ _ _ h => h)
  (hy : Yields P ops oi undef a:=by exact Or.inr ⟨by rfl,rfl⟩)
  (ha : a.put N undef = a':=by simp only [Act.put,List.setIfInBounds_toArray,List.set_cons_zero,List.set_cons_succ,i64_w,i32_w];rfl) : wpAnyLast P md ops Q S ds (fuel + 1) l a w:=pure_ _ hi hN hc hQ hy ha h
theorem tS {i : Nat} {N : Option Tmp} {oi : Oper} {v : Value} {fuel : Nat} {l : Array Bool} {a a' : Act} {w : World} {T : Bool × List (List Nat × List Nat)} {B : List Nat} (hi : ops[i]? = some oi) (hN : oi.dst = N) (hS : S w) (hT : rtab md ops = T) (hB : waitsOk T.2 B = true) (hc : takeW T B ds l.toList (l.setIfInBounds i true).toList i = true) (hy : YieldsIf P ops S oi v a)
  (h : wpAnyLast P md ops Q S ds fuel (l.setIfInBounds i true) a' w)
  (hQ : ∀ c a w,Q (.panic c) (a.put oi.dst v) w → Q (.panic c) a w:=by exact fun _ _ _ h => h)
  (ha : a.put N v = a':=by simp only [Act.put,List.setIfInBounds_toArray,List.set_cons_zero,List.set_cons_succ,i64_w,i32_w];rfl) : wpAnyLast P md ops Q S ds (fuel + 1) l a w:=take_ _ hi hN (take_ofW hT hB hc) hQ hy hS ha h
end
end Go.Proofs.YtaokkkolbifdpaaGreatDoor
end

section
namespace Go.Proofs.YtaokkkolbifdpaaGreatDoor.Hand
theorem seat_mayEnter : Tryz.prog.mayEnter = true := by kernel_rfl
theorem seat_lifts : Tryz.prog.liftsFinal = false := by kernel_rfl
theorem seat_make : Tryz.prog.make = some .cut := by kernel_rfl
end Go.Proofs.YtaokkkolbifdpaaGreatDoor.Hand
end

section
namespace Go.Proofs.YtaokkkolbifdpaaGreatDoor.Q13
open Go.RowKit Go.Proofs.YtaokkkolbifdpaaGreatDoorW
open PrintWords PrintLast PrintMore
attribute [local go_sem] max2_int min2_int max_two min_two max_three min_three max_four min_four
def errW : Option Int → Value
  | none => .nilIface
  | some c => .iface 0 (.int .i64 c)
theorem errW_none : errW none = .nilIface := rfl
theorem errW_some (c : Int) : errW (some c) = .iface 0 (.int .i64 c) := rfl
mutual
def word_letter.j0 : Nat → Int → Bool → Option (Bool)
  | 0,_,_ => none
  | k + 1,x0,x3 => if x3 = true then (some true) else (if x0 ≥ 65 then (word_letter.j1 k x0 (decide (x0 ≤ 90))) else (word_letter.j1 k x0 false))
def word_letter.j1 : Nat → Int → Bool → Option (Bool)
  | 0,_,_ => none
  | k + 1,x0,x8 => if x8 = true then (some true) else (if x0 ≥ 97 then (word_letter.j2 k x0 (decide (x0 ≤ 122))) else (word_letter.j2 k x0 false))
def word_letter.j2 : Nat → Int → Bool → Option (Bool)
  | 0,_,_ => none
  | k + 1,x0,x8 => if x8 = true then (some true) else (if x0 ≥ 48 then (if x0 ≤ 57 then (some true) else (some false)) else (some false))
end
def word_letter.f (k : Nat) (a0 : Int) : Option (Bool) := if a0 = 95 then (word_letter.j0 k a0 (a0 == 95)) else (word_letter.j0 k a0 (a0 == 36))
theorem word_letter.calls (k : Nat) (a0 : Int) (r : Bool) (w : World) (h : word_letter.f k a0 = some r) :
    Calls Tryz.prog 73 #[.int .u8 a0] w fun e w' => e = .returned (.bool r) ∧ Drawn0 w w':=by
 have H : (if a0 = 95 then (word_letter.j0 k a0 (a0 == 95)) else (word_letter.j0 k a0 (a0 == 36))) = some r:=h
 clear h
 have HC2:=aq H
 clear H
 go_enter Tryz.func73,Tryz.ntmps73
 go_upto_if 3 with (fail)
 go_cut [3] (fun v3 wc => ∃ (kq : Nat) (x3_1 : Bool),v3 = .bool x3_1 ∧ Aside0 (word_letter.j0 kq a0 x3_1 = some r) ∧ Aside0 (kq ≤ k) ∧ Drawn0 w wc)
 case first =>
  have H:=HC2.out
  clear HC2
  by_cases c3 : a0 = 95
  rotate_left
  · rw [if_neg c3] at H
    have c3b0 : (a0 == 95) = false:=beq_eq_false_iff_ne.mpr c3
    have c3b1 : (a0 != 95) = true:=bne_iff_ne.mpr c3
    (first|rw [c3b0]|rw [c3b1]|(simp only [i64_w,i32_w];rw [c3b0])|skip)
    have H':=aq H
    clear H
    go_wp2
    go_meet
    case rel => exact ⟨_,((a0 == 36)),eS,H',⟨by first|omega|exact Nat.le_refl _⟩,dR⟩
  rw [if_pos c3] at H
  have c3b0 : (a0 == 95) = true:=beq_iff_eq.mpr c3
  have c3b1 : (a0 != 95) = false:=bne_eq_false_iff_eq.mpr c3
  clear c3
  (first|rw [c3b0]|rw [c3b1]|(simp only [i64_w,i32_w];rw [c3b0])|skip)
  have H':=aq H
  clear H
  go_wp2
  go_meet
  case rel => exact ⟨_,((a0 == 95)),eS,H',⟨by first|omega|exact Nat.le_refl _⟩,dR⟩
 case rest =>
 clear HC2
 obtain ⟨kq,x3_1,rfl,HA,HJ1,⟨mc1,rfl⟩⟩:=hcut
 cases kq with
 | zero => exact absurd HA.out (by simp [word_letter.j0])
 | succ kj1 =>
 have H:=HA.out
 clear HA
 simp only [word_letter.j0] at H
 by_cases c4 : x3_1 = true
 · subst c4
   have H1 : (some true) = some r:=by rw [if_pos rfl] at H;exact H
   clear H
   have H:=H1
   clear H1
   obtain rfl:=Option.some.inj H
   go_wp2
   go_ret
   exact ⟨eS,dR⟩
 replace c4:=Bool.eq_false_iff.mpr c4
 subst c4
 have H1 : (if a0 ≥ 65 then (word_letter.j1 kj1 a0 (decide (a0 ≤ 90))) else (word_letter.j1 kj1 a0 false)) = some r:=by rw [if_neg (show ¬ (false = true) by decide)] at H;exact H
 clear H
 have H:=H1
 clear H1
 have HC5:=aq H
 clear H
 go_upto_region 3 with (fail)
 go_cut [8] (fun v8 wc => ∃ (kq : Nat) (x8_4 : Bool),v8 = .bool x8_4 ∧ Aside0 (word_letter.j1 kq a0 x8_4 = some r) ∧ Aside0 (kq ≤ kj1) ∧ Drawn0 w wc)
 case first =>
  have H:=HC5.out
  clear HC5
  by_cases c6 : a0 ≥ 65
  rotate_left
  · rw [if_neg c6] at H
    have c6b0 : decide (65 ≤ a0) = false:=decide_eq_false c6
    clear c6
    (first|rw [c6b0]|rw [c6b1]|(simp only [i64_w,i32_w];rw [c6b0])|skip)
    have H':=aq H
    clear H
    go_wp2
    go_meet
    case rel => exact ⟨_,(false),eS,H',⟨by have:=HJ1.out;first|omega|exact Nat.le_refl _⟩,dR⟩
  rw [if_pos c6] at H
  have c6b0 : decide (65 ≤ a0) = true:=decide_eq_true c6
  clear c6
  (first|rw [c6b0]|rw [c6b1]|(simp only [i64_w,i32_w];rw [c6b0])|skip)
  have H':=aq H
  clear H
  go_wp2
  go_meet
  case rel => exact ⟨_,(decide (a0 ≤ 90)),eS,H',⟨by have:=HJ1.out;first|omega|exact Nat.le_refl _⟩,dR⟩
 case rest =>
 clear HC5
 try clear c4
 obtain ⟨kq,x8_4,rfl,HA,HJ4,⟨mc4,rfl⟩⟩:=hcut
 cases kq with
 | zero => exact absurd HA.out (by simp [word_letter.j1])
 | succ kj4 =>
 have H:=HA.out
 clear HA
 simp only [word_letter.j1] at H
 by_cases c7 : x8_4 = true
 · subst c7
   have H1 : (some true) = some r:=by rw [if_pos rfl] at H;exact H
   clear H
   have H:=H1
   clear H1
   obtain rfl:=Option.some.inj H
   go_wp2
   go_ret
   exact ⟨eS,dR⟩
 replace c7:=Bool.eq_false_iff.mpr c7
 subst c7
 have H1 : (if a0 ≥ 97 then (word_letter.j2 kj4 a0 (decide (a0 ≤ 122))) else (word_letter.j2 kj4 a0 false)) = some r:=by rw [if_neg (show ¬ (false = true) by decide)] at H;exact H
 clear H
 have H:=H1
 clear H1
 have HC8:=aq H
 clear H
 go_upto_region 4 with (fail)
 go_cut [8] (fun v8 wc => ∃ (kq : Nat) (x8_7 : Bool),v8 = .bool x8_7 ∧ Aside0 (word_letter.j2 kq a0 x8_7 = some r) ∧ Aside0 (kq ≤ kj4) ∧ Drawn0 w wc)
 case first =>
  have H:=HC8.out
  clear HC8
  by_cases c9 : a0 ≥ 97
  rotate_left
  · rw [if_neg c9] at H
    have c9b0 : decide (97 ≤ a0) = false:=decide_eq_false c9
    clear c9
    (first|rw [c9b0]|rw [c9b1]|(simp only [i64_w,i32_w];rw [c9b0])|skip)
    have H':=aq H
    clear H
    go_wp2
    go_meet
    case rel => exact ⟨_,(false),eS,H',⟨by have:=HJ1.out;have:=HJ4.out;first|omega|exact Nat.le_refl _⟩,dR⟩
  rw [if_pos c9] at H
  have c9b0 : decide (97 ≤ a0) = true:=decide_eq_true c9
  clear c9
  (first|rw [c9b0]|rw [c9b1]|(simp only [i64_w,i32_w];rw [c9b0])|skip)
  have H':=aq H
  clear H
  go_wp2
  go_meet
  case rel => exact ⟨_,(decide (a0 ≤ 122)),eS,H',⟨by have:=HJ1.out;have:=HJ4.out;first|omega|exact Nat.le_refl _⟩,dR⟩
 case rest =>
 clear HC8
 (try clear c4);(try clear c7)
 obtain ⟨kq,x8_7,rfl,HA,HJ7,⟨mc7,rfl⟩⟩:=hcut
 cases kq with
 | zero => exact absurd HA.out (by simp [word_letter.j2])
 | succ kj7 =>
 have H:=HA.out
 clear HA
 simp only [word_letter.j2] at H
 by_cases c10 : x8_7 = true
 · subst c10
   have H1 : (some true) = some r:=by rw [if_pos rfl] at H;exact H
   clear H
   have H:=H1
   clear H1
   obtain rfl:=Option.some.inj H
   go_wp2
   go_ret
   exact ⟨eS,dR⟩
 replace c10:=Bool.eq_false_iff.mpr c10
 subst c10
 have H1 : (if a0 ≥ 48 then (if a0 ≤ 57 then (some true) else (some false)) else (some false)) = some r:=by rw [if_neg (show ¬ (false = true) by decide)] at H;exact H
 clear H
 have H:=H1
 clear H1
 by_cases c11 : a0 ≥ 48
 rotate_left
 · rw [if_neg c11] at H
   have c11b0 : decide (48 ≤ a0) = false:=decide_eq_false c11
   clear c11
   obtain rfl:=Option.some.inj H
   go_wp2
   go_ret
   exact ⟨eS,dR⟩
 rw [if_pos c11] at H
 have c11b0 : decide (48 ≤ a0) = true:=decide_eq_true c11
 clear c11
 by_cases c12 : a0 ≤ 57
 · rw [if_pos c12] at H
   have c12b0 : decide (a0 ≤ 57) = true:=decide_eq_true c12
   clear c12
   obtain rfl:=Option.some.inj H
   go_wp2
   go_ret
   exact ⟨eS,dR⟩
 rw [if_neg c12] at H
 have c12b0 : decide (a0 ≤ 57) = false:=decide_eq_false c12
 clear c12
 obtain rfl:=Option.some.inj H
 go_wp2
 go_ret
 exact ⟨eS,dR⟩
def sr04_letter.f (a0 : Int) : Option (Bool) := if a0 ≥ 65 then (if a0 ≤ 90 then (some true) else (if a0 ≥ 97 then (if a0 ≤ 122 then (some true) else (if a0 ≥ 48 then (if a0 ≤ 57 then (some true) else (if a0 = 95 then (some true) else (some (a0 == 36)))) else (if a0 = 95 then (some true) else (some (a0 == 36))))) else (if a0 ≥ 48 then (if a0 ≤ 57 then (some true) else (if a0 = 95 then (some true) else (some (a0 == 36)))) else (if a0 = 95 then (some true) else (some (a0 == 36)))))) else (if a0 ≥ 97 then (if a0 ≤ 122 then (some true) else (if a0 ≥ 48 then (if a0 ≤ 57 then (some true) else (if a0 = 95 then (some true) else (some (a0 == 36)))) else (if a0 = 95 then (some true) else (some (a0 == 36))))) else (if a0 ≥ 48 then (if a0 ≤ 57 then (some true) else (if a0 = 95 then (some true) else (some (a0 == 36)))) else (if a0 = 95 then (some true) else (some (a0 == 36)))))
theorem sr04_letter.calls (a0 : Int) (r : Bool) (w : World) (h : sr04_letter.f a0 = some r) :
    Calls Tryz.prog 106 #[.int .u8 a0] w fun e w' => e = .returned (.bool r) ∧ Drawn0 w w':=by
 have H : (if a0 ≥ 65 then (if a0 ≤ 90 then (some true) else (if a0 ≥ 97 then (if a0 ≤ 122 then (some true) else (if a0 ≥ 48 then (if a0 ≤ 57 then (some true) else (if a0 = 95 then (some true) else (some (a0 == 36)))) else (if a0 = 95 then (some true) else (some (a0 == 36))))) else (if a0 ≥ 48 then (if a0 ≤ 57 then (some true) else (if a0 = 95 then (some true) else (some (a0 == 36)))) else (if a0 = 95 then (some true) else (some (a0 == 36)))))) else (if a0 ≥ 97 then (if a0 ≤ 122 then (some true) else (if a0 ≥ 48 then (if a0 ≤ 57 then (some true) else (if a0 = 95 then (some true) else (some (a0 == 36)))) else (if a0 = 95 then (some true) else (some (a0 == 36))))) else (if a0 ≥ 48 then (if a0 ≤ 57 then (some true) else (if a0 = 95 then (some true) else (some (a0 == 36)))) else (if a0 = 95 then (some true) else (some (a0 == 36)))))) = some r:=h
 clear h
 by_cases c2 : a0 ≥ 65
 rotate_left
 · rw [if_neg c2] at H
   have c2b0 : decide (65 ≤ a0) = false:=decide_eq_false c2
   clear c2
   by_cases c14 : a0 ≥ 97
   rotate_left
   · rw [if_neg c14] at H
     have c14b0 : decide (97 ≤ a0) = false:=decide_eq_false c14
     clear c14
     by_cases c20 : a0 ≥ 48
     rotate_left
     · rw [if_neg c20] at H
       have c20b0 : decide (48 ≤ a0) = false:=decide_eq_false c20
       clear c20
       by_cases c23 : a0 = 95
       rotate_left
       · rw [if_neg c23] at H
         have c23b0 : (a0 == 95) = false:=beq_eq_false_iff_ne.mpr c23
         have c23b1 : (a0 != 95) = true:=bne_iff_ne.mpr c23
         obtain rfl:=Option.some.inj H
         go_enter Tryz.func106,Tryz.ntmps106
         go_wp2
         go_ret
         exact ⟨eS,dR⟩
       rw [if_pos c23] at H
       have c23b0 : (a0 == 95) = true:=beq_iff_eq.mpr c23
       have c23b1 : (a0 != 95) = false:=bne_eq_false_iff_eq.mpr c23
       clear c23
       obtain rfl:=Option.some.inj H
       go_enter Tryz.func106,Tryz.ntmps106
       go_wp2
       go_ret
       exact ⟨eS,dR⟩
     rw [if_pos c20] at H
     have c20b0 : decide (48 ≤ a0) = true:=decide_eq_true c20
     clear c20
     by_cases c21 : a0 ≤ 57
     · rw [if_pos c21] at H
       have c21b0 : decide (a0 ≤ 57) = true:=decide_eq_true c21
       clear c21
       obtain rfl:=Option.some.inj H
       go_enter Tryz.func106,Tryz.ntmps106
       go_wp2
       go_ret
       exact ⟨eS,dR⟩
     rw [if_neg c21] at H
     have c21b0 : decide (a0 ≤ 57) = false:=decide_eq_false c21
     clear c21
     by_cases c22 : a0 = 95
     rotate_left
     · rw [if_neg c22] at H
       have c22b0 : (a0 == 95) = false:=beq_eq_false_iff_ne.mpr c22
       have c22b1 : (a0 != 95) = true:=bne_iff_ne.mpr c22
       obtain rfl:=Option.some.inj H
       go_enter Tryz.func106,Tryz.ntmps106
       go_wp2
       go_ret
       exact ⟨eS,dR⟩
     rw [if_pos c22] at H
     have c22b0 : (a0 == 95) = true:=beq_iff_eq.mpr c22
     have c22b1 : (a0 != 95) = false:=bne_eq_false_iff_eq.mpr c22
     clear c22
     obtain rfl:=Option.some.inj H
     go_enter Tryz.func106,Tryz.ntmps106
     go_wp2
     go_ret
     exact ⟨eS,dR⟩
   rw [if_pos c14] at H
   have c14b0 : decide (97 ≤ a0) = true:=decide_eq_true c14
   clear c14
   by_cases c15 : a0 ≤ 122
   · rw [if_pos c15] at H
     have c15b0 : decide (a0 ≤ 122) = true:=decide_eq_true c15
     clear c15
     obtain rfl:=Option.some.inj H
     go_enter Tryz.func106,Tryz.ntmps106
     go_wp2
     go_ret
     exact ⟨eS,dR⟩
   rw [if_neg c15] at H
   have c15b0 : decide (a0 ≤ 122) = false:=decide_eq_false c15
   clear c15
   by_cases c16 : a0 ≥ 48
   rotate_left
   · rw [if_neg c16] at H
     have c16b0 : decide (48 ≤ a0) = false:=decide_eq_false c16
     clear c16
     by_cases c19 : a0 = 95
     rotate_left
     · rw [if_neg c19] at H
       have c19b0 : (a0 == 95) = false:=beq_eq_false_iff_ne.mpr c19
       have c19b1 : (a0 != 95) = true:=bne_iff_ne.mpr c19
       obtain rfl:=Option.some.inj H
       go_enter Tryz.func106,Tryz.ntmps106
       go_wp2
       go_ret
       exact ⟨eS,dR⟩
     rw [if_pos c19] at H
     have c19b0 : (a0 == 95) = true:=beq_iff_eq.mpr c19
     have c19b1 : (a0 != 95) = false:=bne_eq_false_iff_eq.mpr c19
     clear c19
     obtain rfl:=Option.some.inj H
     go_enter Tryz.func106,Tryz.ntmps106
     go_wp2
     go_ret
     exact ⟨eS,dR⟩
   rw [if_pos c16] at H
   have c16b0 : decide (48 ≤ a0) = true:=decide_eq_true c16
   clear c16
   by_cases c17 : a0 ≤ 57
   · rw [if_pos c17] at H
     have c17b0 : decide (a0 ≤ 57) = true:=decide_eq_true c17
     clear c17
     obtain rfl:=Option.some.inj H
     go_enter Tryz.func106,Tryz.ntmps106
     go_wp2
     go_ret
     exact ⟨eS,dR⟩
   rw [if_neg c17] at H
   have c17b0 : decide (a0 ≤ 57) = false:=decide_eq_false c17
   clear c17
   by_cases c18 : a0 = 95
   rotate_left
   · rw [if_neg c18] at H
     have c18b0 : (a0 == 95) = false:=beq_eq_false_iff_ne.mpr c18
     have c18b1 : (a0 != 95) = true:=bne_iff_ne.mpr c18
     obtain rfl:=Option.some.inj H
     go_enter Tryz.func106,Tryz.ntmps106
     go_wp2
     go_ret
     exact ⟨eS,dR⟩
   rw [if_pos c18] at H
   have c18b0 : (a0 == 95) = true:=beq_iff_eq.mpr c18
   have c18b1 : (a0 != 95) = false:=bne_eq_false_iff_eq.mpr c18
   clear c18
   obtain rfl:=Option.some.inj H
   go_enter Tryz.func106,Tryz.ntmps106
   go_wp2
   go_ret
   exact ⟨eS,dR⟩
 rw [if_pos c2] at H
 have c2b0 : decide (65 ≤ a0) = true:=decide_eq_true c2
 clear c2
 by_cases c3 : a0 ≤ 90
 · rw [if_pos c3] at H
   have c3b0 : decide (a0 ≤ 90) = true:=decide_eq_true c3
   clear c3
   obtain rfl:=Option.some.inj H
   go_enter Tryz.func106,Tryz.ntmps106
   go_wp2
   go_ret
   exact ⟨eS,dR⟩
 rw [if_neg c3] at H
 have c3b0 : decide (a0 ≤ 90) = false:=decide_eq_false c3
 clear c3
 by_cases c4 : a0 ≥ 97
 rotate_left
 · rw [if_neg c4] at H
   have c4b0 : decide (97 ≤ a0) = false:=decide_eq_false c4
   clear c4
   by_cases c10 : a0 ≥ 48
   rotate_left
   · rw [if_neg c10] at H
     have c10b0 : decide (48 ≤ a0) = false:=decide_eq_false c10
     clear c10
     by_cases c13 : a0 = 95
     rotate_left
     · rw [if_neg c13] at H
       have c13b0 : (a0 == 95) = false:=beq_eq_false_iff_ne.mpr c13
       have c13b1 : (a0 != 95) = true:=bne_iff_ne.mpr c13
       obtain rfl:=Option.some.inj H
       go_enter Tryz.func106,Tryz.ntmps106
       go_wp2
       go_ret
       exact ⟨eS,dR⟩
     rw [if_pos c13] at H
     have c13b0 : (a0 == 95) = true:=beq_iff_eq.mpr c13
     have c13b1 : (a0 != 95) = false:=bne_eq_false_iff_eq.mpr c13
     clear c13
     obtain rfl:=Option.some.inj H
     go_enter Tryz.func106,Tryz.ntmps106
     go_wp2
     go_ret
     exact ⟨eS,dR⟩
   rw [if_pos c10] at H
   have c10b0 : decide (48 ≤ a0) = true:=decide_eq_true c10
   clear c10
   by_cases c11 : a0 ≤ 57
   · rw [if_pos c11] at H
     have c11b0 : decide (a0 ≤ 57) = true:=decide_eq_true c11
     clear c11
     obtain rfl:=Option.some.inj H
     go_enter Tryz.func106,Tryz.ntmps106
     go_wp2
     go_ret
     exact ⟨eS,dR⟩
   rw [if_neg c11] at H
   have c11b0 : decide (a0 ≤ 57) = false:=decide_eq_false c11
   clear c11
   by_cases c12 : a0 = 95
   rotate_left
   · rw [if_neg c12] at H
     have c12b0 : (a0 == 95) = false:=beq_eq_false_iff_ne.mpr c12
     have c12b1 : (a0 != 95) = true:=bne_iff_ne.mpr c12
     obtain rfl:=Option.some.inj H
     go_enter Tryz.func106,Tryz.ntmps106
     go_wp2
     go_ret
     exact ⟨eS,dR⟩
   rw [if_pos c12] at H
   have c12b0 : (a0 == 95) = true:=beq_iff_eq.mpr c12
   have c12b1 : (a0 != 95) = false:=bne_eq_false_iff_eq.mpr c12
   clear c12
   obtain rfl:=Option.some.inj H
   go_enter Tryz.func106,Tryz.ntmps106
   go_wp2
   go_ret
   exact ⟨eS,dR⟩
 rw [if_pos c4] at H
 have c4b0 : decide (97 ≤ a0) = true:=decide_eq_true c4
 clear c4
 by_cases c5 : a0 ≤ 122
 · rw [if_pos c5] at H
   have c5b0 : decide (a0 ≤ 122) = true:=decide_eq_true c5
   clear c5
   obtain rfl:=Option.some.inj H
   go_enter Tryz.func106,Tryz.ntmps106
   go_wp2
   go_ret
   exact ⟨eS,dR⟩
 rw [if_neg c5] at H
 have c5b0 : decide (a0 ≤ 122) = false:=decide_eq_false c5
 clear c5
 by_cases c6 : a0 ≥ 48
 rotate_left
 · rw [if_neg c6] at H
   have c6b0 : decide (48 ≤ a0) = false:=decide_eq_false c6
   clear c6
   by_cases c9 : a0 = 95
   rotate_left
   · rw [if_neg c9] at H
     have c9b0 : (a0 == 95) = false:=beq_eq_false_iff_ne.mpr c9
     have c9b1 : (a0 != 95) = true:=bne_iff_ne.mpr c9
     obtain rfl:=Option.some.inj H
     go_enter Tryz.func106,Tryz.ntmps106
     go_wp2
     go_ret
     exact ⟨eS,dR⟩
   rw [if_pos c9] at H
   have c9b0 : (a0 == 95) = true:=beq_iff_eq.mpr c9
   have c9b1 : (a0 != 95) = false:=bne_eq_false_iff_eq.mpr c9
   clear c9
   obtain rfl:=Option.some.inj H
   go_enter Tryz.func106,Tryz.ntmps106
   go_wp2
   go_ret
   exact ⟨eS,dR⟩
 rw [if_pos c6] at H
 have c6b0 : decide (48 ≤ a0) = true:=decide_eq_true c6
 clear c6
 by_cases c7 : a0 ≤ 57
 · rw [if_pos c7] at H
   have c7b0 : decide (a0 ≤ 57) = true:=decide_eq_true c7
   clear c7
   obtain rfl:=Option.some.inj H
   go_enter Tryz.func106,Tryz.ntmps106
   go_wp2
   go_ret
   exact ⟨eS,dR⟩
 rw [if_neg c7] at H
 have c7b0 : decide (a0 ≤ 57) = false:=decide_eq_false c7
 clear c7
 by_cases c8 : a0 = 95
 rotate_left
 · rw [if_neg c8] at H
   have c8b0 : (a0 == 95) = false:=beq_eq_false_iff_ne.mpr c8
   have c8b1 : (a0 != 95) = true:=bne_iff_ne.mpr c8
   obtain rfl:=Option.some.inj H
   go_enter Tryz.func106,Tryz.ntmps106
   go_wp2
   go_ret
   exact ⟨eS,dR⟩
 rw [if_pos c8] at H
 have c8b0 : (a0 == 95) = true:=beq_iff_eq.mpr c8
 have c8b1 : (a0 != 95) = false:=bne_eq_false_iff_eq.mpr c8
 clear c8
 obtain rfl:=Option.some.inj H
 go_enter Tryz.func106,Tryz.ntmps106
 go_wp2
 go_ret
 exact ⟨eS,dR⟩
mutual
def sr04_all.j0 : Nat → ByteArray → Int → Bool → Option (Bool)
  | 0,_,_,_ => none
  | k + 1,x0,x1,x13 => if x13 = true then (some false) else (sr04_all.l0 k x0 x1 0)
def sr04_all.l0 : Nat → ByteArray → Int → Int → Option (Bool)
  | 0,_,_,_ => none
  | k + 1,x0,x1,x5 => if x5 < (x0.size : Int) then (if 0 ≤ x5 then ((sr04_letter.f (bt x0 x5)).bind fun t101 => (if t101 = true then (sr04_all.l0 k x0 x1 (wrap64 (x5 + 1))) else (if (bt x0 x5) = x1 then (sr04_all.l0 k x0 x1 (wrap64 (x5 + 1))) else (some false)))) else (none)) else (some true)
end
def sr04_all.f (k : Nat) (a0 : ByteArray) (a1 : Int) : Option (Bool) := if (a0.size : Int) < 1 then (sr04_all.j0 k a0 a1 true) else (sr04_all.j0 k a0 a1 (decide ((a0.size : Int) > 32)))
theorem sr04_all.calls (k : Nat) (a0 : ByteArray) (a1 : Int) (r : Bool) (w : World) (h : sr04_all.f k a0 a1 = some r) :
    Calls Tryz.prog 82 #[.string a0,.int .u8 a1] w fun e w' => e = .returned (.bool r) ∧ Drawn0 w w':=by
 have H : (if (a0.size : Int) < 1 then (sr04_all.j0 k a0 a1 true) else (sr04_all.j0 k a0 a1 (decide ((a0.size : Int) > 32)))) = some r:=h
 clear h
 have HC3:=aq H
 clear H
 go_enter Tryz.func82,Tryz.ntmps82
 go_upto_region 1 with (fail)
 go_cut [13] (fun v13 wc => ∃ (kq : Nat) (x13_2 : Bool),v13 = .bool x13_2 ∧ Aside0 (sr04_all.j0 kq a0 a1 x13_2 = some r) ∧ Aside0 (kq ≤ k) ∧ Drawn0 w wc)
 case first =>
  have H:=HC3.out
  clear HC3
  by_cases c4 : (a0.size : Int) < 1
  · rw [if_pos c4] at H
    have c4b0 : decide ((a0.size : Int) < 1) = true:=decide_eq_true c4
    have c4b1 : decide (a0.size < 1) = true:=decide_eq_true (by omega)
    clear c4
    (first|rw [c4b0]|rw [c4b1]|(simp only [i64_w,i32_w];rw [c4b0])|skip)
    have H':=aq H
    clear H
    go_wp2
    go_meet
    case rel => exact ⟨_,(true),eS,H',⟨by first|omega|exact Nat.le_refl _⟩,dR⟩
  rw [if_neg c4] at H
  have c4b0 : decide ((a0.size : Int) < 1) = false:=decide_eq_false c4
  have c4b1 : decide (a0.size < 1) = false:=decide_eq_false (by omega)
  clear c4
  (first|rw [c4b0]|rw [c4b1]|(simp only [i64_w,i32_w];rw [c4b0])|skip)
  have H':=aq H
  clear H
  go_wp2
  go_meet
  case rel => exact ⟨_,(decide ((a0.size : Int) > 32)),eS,H',⟨by first|omega|exact Nat.le_refl _⟩,dR⟩
 case rest =>
 clear HC3
 obtain ⟨kq,x13_2,rfl,HA,HJ2,⟨mc2,rfl⟩⟩:=hcut
 cases kq with
 | zero => exact absurd HA.out (by simp [sr04_all.j0])
 | succ kj2 =>
 have H:=HA.out
 clear HA
 simp only [sr04_all.j0] at H
 by_cases c5 : x13_2 = true
 · subst c5
   have H1 : (some false) = some r:=by rw [if_pos rfl] at H;exact H
   clear H
   have H:=H1
   clear H1
   obtain rfl:=Option.some.inj H
   go_wp2
   go_ret
   exact ⟨eS,dR⟩
 replace c5:=Bool.eq_false_iff.mpr c5
 subst c5
 have H1 : (sr04_all.l0 kj2 a0 a1 0) = some r:=by rw [if_neg (show ¬ (false = true) by decide)] at H;exact H
 clear H
 have H:=H1
 clear H1
 have H':=aq H
 clear H
 go_wp2
 go_loopg [5] kj2 (fun kq v5 w' => ∃ (x5_2 : Int),v5 = .int .i64 x5_2 ∧ Aside0 (sr04_all.l0 kq a0 a1 x5_2 = some r) ∧ Aside0 (kq ≤ kj2) ∧ Drawn0 w w')
 case atStart => exact ⟨(0),eS,H',⟨Nat.le_refl _⟩,dR⟩
 case round =>
 clear H'
 try clear c5
 obtain ⟨x5_2,rfl,HA,HK2,⟨m2,rfl⟩⟩:=hrel
 cases gk with
 | zero => exact absurd HA.out (by simp [sr04_all.l0])
 | succ k2 =>
 have H:=HA.out
 clear HA
 simp only [sr04_all.l0] at H
 by_cases c6 : x5_2 < (a0.size : Int)
 rotate_left
 · rw [if_neg c6] at H
   have c6b0 : decide (x5_2 < (a0.size : Int)) = false:=decide_eq_false c6
   clear c6
   obtain rfl:=Option.some.inj H
   go_wp2
   go_ret
   exact ⟨eS,dR⟩
 rw [if_pos c6] at H
 have c6b0 : decide (x5_2 < (a0.size : Int)) = true:=decide_eq_true c6
 clear c6
 by_cases c7 : 0 ≤ x5_2
 rotate_left
 · rw [if_neg c7] at H
   exact absurd H (by simp)
 rw [if_pos c7] at H
 have c7b0 : decide (0 ≤ x5_2) = true:=decide_eq_true c7
 clear c7
 replace H:=Option.bind_eq_some_iff.mp H
 obtain ⟨t101,A90,H⟩:=H
 have A9:=aq A90
 clear A90
 by_cases c10 : t101 = true
 · subst c10
   have H1 : (sr04_all.l0 k2 a0 a1 (wrap64 (x5_2 + 1))) = some r:=by rw [if_pos rfl] at H;exact H
   clear H
   have H:=H1
   clear H1
   have H':=aq H
   clear H
   have p8 : 0 ≤ (x5_2 : Int):=of_decide_eq_true aS
   have q8 : x5_2 < (a0.size : Int):=of_decide_eq_true aS
   have hx8:=bt_at a0 x5_2
   replace p8:=eq_true p8
   replace q8:=eq_true q8
   go_wp2_with (first|((with_reducible refine gate_callee (f:=106) rfl ?_);refine goesL_ (some 23) rfl rfl Tryz.func106 (by kernel_rfl) rfl #[.int .u8 (bt a0 x5_2)] rfl eA ?_;(with_reducible refine (sr04_letter.calls (bt a0 x5_2) true _ A9.out).mono ?_);rintro e w' ⟨rfl,⟨nd,rfl⟩⟩;refine ⟨_,rfl,?_⟩))
   go_roundg k2
   case measure => have:=HJ2.out;have:=HK2.out;omega
   case rel => exact ⟨(wrap64 (x5_2 + 1)),eS,H',⟨by have:=HJ2.out;have:=HK2.out;omega⟩,dR⟩
 replace c10:=Bool.eq_false_iff.mpr c10
 subst c10
 have H1 : (if (bt a0 x5_2) = a1 then (sr04_all.l0 k2 a0 a1 (wrap64 (x5_2 + 1))) else (some false)) = some r:=by rw [if_neg (show ¬ (false = true) by decide)] at H;exact H
 clear H
 have H:=H1
 clear H1
 by_cases c12 : (bt a0 x5_2) = a1
 rotate_left
 · rw [if_neg c12] at H
   have c12b0 : ((bt a0 x5_2) == a1) = false:=beq_eq_false_iff_ne.mpr c12
   have c12b1 : ((bt a0 x5_2) != a1) = true:=bne_iff_ne.mpr c12
   obtain rfl:=Option.some.inj H
   have p8 : 0 ≤ (x5_2 : Int):=of_decide_eq_true aS
   have q8 : x5_2 < (a0.size : Int):=of_decide_eq_true aS
   have hx8:=bt_at a0 x5_2
   replace p8:=eq_true p8
   replace q8:=eq_true q8
   go_wp2_with (first|((with_reducible refine gate_callee (f:=106) rfl ?_);refine goesL_ (some 23) rfl rfl Tryz.func106 (by kernel_rfl) rfl #[.int .u8 (bt a0 x5_2)] rfl eA ?_;(with_reducible refine (sr04_letter.calls (bt a0 x5_2) false _ A9.out).mono ?_);rintro e w' ⟨rfl,⟨nd,rfl⟩⟩;refine ⟨_,rfl,?_⟩;have p11 : 0 ≤ (x5_2 : Int):=of_decide_eq_true aS;have q11 : x5_2 < (a0.size : Int):=of_decide_eq_true aS;have hx11:=bt_at a0 x5_2;replace p11:=eq_true p11;replace q11:=eq_true q11))
   go_ret
   exact ⟨eS,dR⟩
 rw [if_pos c12] at H
 have c12b0 : ((bt a0 x5_2) == a1) = true:=beq_iff_eq.mpr c12
 have c12b1 : ((bt a0 x5_2) != a1) = false:=bne_eq_false_iff_eq.mpr c12
 clear c12
 have H':=aq H
 clear H
 have p8 : 0 ≤ (x5_2 : Int):=of_decide_eq_true aS
 have q8 : x5_2 < (a0.size : Int):=of_decide_eq_true aS
 have hx8:=bt_at a0 x5_2
 replace p8:=eq_true p8
 replace q8:=eq_true q8
 go_wp2_with (first|((with_reducible refine gate_callee (f:=106) rfl ?_);refine goesL_ (some 23) rfl rfl Tryz.func106 (by kernel_rfl) rfl #[.int .u8 (bt a0 x5_2)] rfl eA ?_;(with_reducible refine (sr04_letter.calls (bt a0 x5_2) false _ A9.out).mono ?_);rintro e w' ⟨rfl,⟨nd,rfl⟩⟩;refine ⟨_,rfl,?_⟩;have p11 : 0 ≤ (x5_2 : Int):=of_decide_eq_true aS;have q11 : x5_2 < (a0.size : Int):=of_decide_eq_true aS;have hx11:=bt_at a0 x5_2;replace p11:=eq_true p11;replace q11:=eq_true q11))
 go_roundg k2
 case measure => have:=HJ2.out;have:=HK2.out;omega
 case rel => exact ⟨(wrap64 (x5_2 + 1)),eS,H',⟨by have:=HJ2.out;have:=HK2.out;omega⟩,dR⟩
def sr04_Name.f (k : Nat) (a0 : ByteArray) : Option (Bool) := if a0.toList = ([60, 99, 108, 105, 110, 105, 116, 62] : List UInt8) then (some true) else ((sr04_all.f k a0 95).bind fun t102 => (some t102))
theorem sr04_Name.calls (k : Nat) (a0 : ByteArray) (r : Bool) (w : World) (h : sr04_Name.f k a0 = some r) :
    Calls Tryz.prog 59 #[.string a0] w fun e w' => e = .returned (.bool r) ∧ Drawn0 w w':=by
 have H : (if a0.toList = ([60,99,108,105,110,105,116,62] : List UInt8) then (some true) else ((sr04_all.f k a0 95).bind fun t102 => (some t102))) = some r:=h
 clear h
 by_cases c2 : a0.toList = ([60,99,108,105,110,105,116,62] : List UInt8)
 · rw [if_pos c2] at H
   have c2b0 : (a0.toList == ([60,99,108,105,110,105,116,62] : List UInt8)) = true:=beq_iff_eq.mpr c2
   have c2b1 : (a0.toList != ([60,99,108,105,110,105,116,62] : List UInt8)) = false:=bne_eq_false_iff_eq.mpr c2
   clear c2
   obtain rfl:=Option.some.inj H
   go_enter Tryz.func59,Tryz.ntmps59
   go_wp2
   go_ret
   exact ⟨eS,dR⟩
 rw [if_neg c2] at H
 have c2b0 : (a0.toList == ([60,99,108,105,110,105,116,62] : List UInt8)) = false:=beq_eq_false_iff_ne.mpr c2
 have c2b1 : (a0.toList != ([60,99,108,105,110,105,116,62] : List UInt8)) = true:=bne_iff_ne.mpr c2
 replace H:=Option.bind_eq_some_iff.mp H
 obtain ⟨t102,A30,H⟩:=H
 have A3:=aq A30
 clear A30
 obtain rfl:=Option.some.inj H
 go_enter Tryz.func59,Tryz.ntmps59
 go_wp2_with (first|(go_at_call 82;(with_reducible refine (sr04_all.calls k a0 95 t102 _ A3.out).mono ?_);rintro e w' ⟨rfl,⟨nd,rfl⟩⟩))
 go_ret
 exact ⟨eS,dR⟩
def sr04_Class.f (k : Nat) (a0 : ByteArray) : Option (Bool) := (sr04_all.f k a0 47).bind fun t103 => (some t103)
theorem sr04_Class.calls (k : Nat) (a0 : ByteArray) (r : Bool) (w : World) (h : sr04_Class.f k a0 = some r) :
    Calls Tryz.prog 58 #[.string a0] w fun e w' => e = .returned (.bool r) ∧ Drawn0 w w':=by
 have H : ((sr04_all.f k a0 47).bind fun t103 => (some t103)) = some r:=h
 clear h
 replace H:=Option.bind_eq_some_iff.mp H
 obtain ⟨t103,A20,H⟩:=H
 have A2:=aq A20
 clear A20
 obtain rfl:=Option.some.inj H
 go_enter Tryz.func58,Tryz.ntmps58
 go_wp2_with (first|((with_reducible refine gate_callee (f:=82) rfl ?_);refine goesL_ (some 4) rfl rfl Tryz.func82 (by kernel_rfl) rfl #[.string a0,.int .u8 47] rfl eA ?_;(with_reducible refine (sr04_all.calls k a0 47 t103 _ A2.out).mono ?_);rintro e w' ⟨rfl,⟨nd,rfl⟩⟩;refine ⟨_,rfl,?_⟩))
 go_ret
 exact ⟨eS,dR⟩
end Go.Proofs.YtaokkkolbifdpaaGreatDoor.Q13
end

section
namespace Go.Proofs
open Go.Shelf
def Tryz.lays169_ren : Go.Shelf.Ren := ⟨fun | 169 => 55 | n => n, fun | 70 => 74 | 9 => 9 | 0 => 0 | 72 => 77 | 37 => 75 | 127 => 97 | 3 => 3 | 5 => 5 | n => n, fun | n => n⟩
theorem Tryz.lays169 : Go.Proofs.Lays.n169 Tryz.prog Tryz.lays169_ren := {
 mixed:=by kernel_rfl
 f169:=Tryz.func55.trans (congrArg some (by kernel_rfl))
 t0:=Tryz.underlying0
 a0:=Tryz.isAgg0
 z0:=Tryz.sizeOf0
 v0:=Tryz.zeroValue0
 t3:=Tryz.underlying3
 a3:=Tryz.isAgg3
 z3:=Tryz.sizeOf3
 v3:=Tryz.zeroValue3
 t9:=Tryz.underlying9
 a9:=Tryz.isAgg9
 z9:=Tryz.sizeOf9
 v9:=Tryz.zeroValue9
 t37:=Tryz.underlying75
 a37:=Tryz.isAgg75
 z37:=Tryz.sizeOf75
 v37:=Tryz.zeroValue75
 t70:=Tryz.underlying74
 a70:=Tryz.isAgg74
 z70:=Tryz.sizeOf74
 v70:=Tryz.zeroValue74
 t72:=Tryz.underlying77
 a72:=Tryz.isAgg77
 z72:=Tryz.sizeOf77
 v72:=Tryz.zeroValue77
 t127:=Tryz.underlying97
 a127:=Tryz.isAgg97
 z127:=Tryz.sizeOf97
 v127:=Tryz.zeroValue97 }
theorem Tryz.Builder_Extra_169 : Builder.Extra Tryz.prog Tryz.lays169_ren := {
 sizeBuilder:=by kernel_rfl
 liesBuilder:=by kernel_rfl
 t5:=Tryz.underlying5
 a5:=Tryz.isAgg5
 z5:=Tryz.sizeOf5
 v5:=Tryz.zeroValue5
 infoByte:=by kernel_rfl
 cellsByte:=by kernel_rfl
 sizeByte:=by kernel_rfl
 neB5:=by decide }
open Go.RowKit in
theorem Tryz.Builder_String_any (B b : Nat) (l : List UInt8) (w : World) (h : Lib.IsBuilder 77 5 B b (Lib.byteCells l) w) (hBw : B ≤ w.heap.size) :
  Calls Tryz.prog 55 #[.pointer (some ⟨b,0,none⟩)] w fun e w' => e = .returned (.string ⟨l.toArray⟩) ∧ Below B w w':=Any.Builder_String_any Tryz.lays169 Tryz.Builder_Extra_169 B b l w h hBw
def Tryz.lays156_ren : Go.Shelf.Ren := ⟨fun | 156 => 38 | 165 => 68 | 166 => 53 | 169 => 55 | 240 => 81 | 241 => 95 | 276 => 105 | 277 => 117 | n => n, fun | 31 => 45 | 9 => 9 | 3 => 3 | 4 => 4 | 0 => 0 | 20 => 20 | 72 => 77 | 76 => 80 | 70 => 74 | 37 => 75 | 75 => 79 | 127 => 97 | 164 => 118 | 5 => 5 | 80 => 83 | n => n, fun | n => n⟩
theorem Tryz.lays156 : Go.Proofs.Lays.n156 Tryz.prog Tryz.lays156_ren := {
 mixed:=by kernel_rfl
 f156:=Tryz.func38.trans (congrArg some (by kernel_rfl))
 f165:=Tryz.func68.trans (congrArg some (by kernel_rfl))
 f166:=Tryz.func53.trans (congrArg some (by kernel_rfl))
 f169:=Tryz.func55.trans (congrArg some (by kernel_rfl))
 f240:=Tryz.func81.trans (congrArg some (by kernel_rfl))
 f241:=Tryz.func95.trans (congrArg some (by kernel_rfl))
 f276:=Tryz.func105.trans (congrArg some (by kernel_rfl))
 f277:=Tryz.func117.trans (congrArg some (by kernel_rfl))
 t0:=Tryz.underlying0
 a0:=Tryz.isAgg0
 z0:=Tryz.sizeOf0
 v0:=Tryz.zeroValue0
 t3:=Tryz.underlying3
 a3:=Tryz.isAgg3
 z3:=Tryz.sizeOf3
 v3:=Tryz.zeroValue3
 t4:=Tryz.underlying4
 a4:=Tryz.isAgg4
 z4:=Tryz.sizeOf4
 v4:=Tryz.zeroValue4
 t9:=Tryz.underlying9
 a9:=Tryz.isAgg9
 z9:=Tryz.sizeOf9
 v9:=Tryz.zeroValue9
 t20:=Tryz.underlying20
 a20:=Tryz.isAgg20
 z20:=Tryz.sizeOf20
 v20:=Tryz.zeroValue20
 t31:=Tryz.underlying45
 a31:=Tryz.isAgg45
 z31:=Tryz.sizeOf45
 v31:=Tryz.zeroValue45
 t37:=Tryz.underlying75
 a37:=Tryz.isAgg75
 z37:=Tryz.sizeOf75
 v37:=Tryz.zeroValue75
 t70:=Tryz.underlying74
 a70:=Tryz.isAgg74
 z70:=Tryz.sizeOf74
 v70:=Tryz.zeroValue74
 t72:=Tryz.underlying77
 a72:=Tryz.isAgg77
 z72:=Tryz.sizeOf77
 v72:=Tryz.zeroValue77
 t75:=Tryz.underlying79
 a75:=Tryz.isAgg79
 z75:=Tryz.sizeOf79
 v75:=Tryz.zeroValue79
 t76:=Tryz.underlying80
 a76:=Tryz.isAgg80
 z76:=Tryz.sizeOf80
 v76:=Tryz.zeroValue80
 t127:=Tryz.underlying97
 a127:=Tryz.isAgg97
 z127:=Tryz.sizeOf97
 v127:=Tryz.zeroValue97
 t164:=Tryz.underlying118
 a164:=Tryz.isAgg118
 z164:=Tryz.sizeOf118
 v164:=Tryz.zeroValue118 }
theorem Tryz.Builder_Extra_156 : Builder.Extra Tryz.prog Tryz.lays156_ren := {
 sizeBuilder:=by kernel_rfl
 liesBuilder:=by kernel_rfl
 t5:=Tryz.underlying5
 a5:=Tryz.isAgg5
 z5:=Tryz.sizeOf5
 v5:=Tryz.zeroValue5
 infoByte:=by kernel_rfl
 cellsByte:=by kernel_rfl
 sizeByte:=by kernel_rfl
 neB5:=by decide }
open Go.RowKit in
theorem Tryz.strings_Join_none (a : Option Addr) (c : Nat) (sep : ByteArray) (w : World) :
  Calls Tryz.prog 38 #[.slice a 0 c,.string sep] w fun e w' => e = .returned (.string ⟨#[]⟩) ∧ w' = w:=Any.strings_Join_none Tryz.lays156 Tryz.Builder_Extra_156 a c sep w
open Go.RowKit in
theorem Tryz.strings_Join (bk o c : Nat) (xs : List ByteArray) (sep : ByteArray) (w : World) (hcells : ∀ (j : Nat) x, xs[j]? = some x → w.cell? ⟨bk, o + j, none⟩ = some (.string x)) (hbk : bk < w.heap.size) (hN : xs.length ≤ 140737488355328) (hcap : xs.length ≤ c) (hlen : (Lib.join (xs.map (·.data.toList)) sep.data.toList).length ≤ 140737488355328) :
  Calls Tryz.prog 38 #[.slice (some ⟨bk,o,none⟩) xs.length c,.string sep] w fun e w' => e = .returned (.string ⟨(Lib.join (xs.map (·.data.toList)) sep.data.toList).toArray⟩) ∧ Below w.heap.size w w':=Any.strings_Join Tryz.lays156 Tryz.Builder_Extra_156 bk o c xs sep w hcells hbk hN hcap hlen
def Tryz.lays137_ren : Go.Shelf.Ren := ⟨fun | 137 => 100 | 217 => 91 | 266 => 115 | n => n, fun | 9 => 9 | 5 => 5 | 3 => 3 | n => n, fun | n => n⟩
theorem Tryz.lays137 : Go.Proofs.Lays.n137 Tryz.prog Tryz.lays137_ren := {
 mixed:=by kernel_rfl
 f137:=Tryz.func100.trans (congrArg some (by kernel_rfl))
 f217:=Tryz.func91.trans (congrArg some (by kernel_rfl))
 f266:=Tryz.func115.trans (congrArg some (by kernel_rfl))
 t3:=Tryz.underlying3
 a3:=Tryz.isAgg3
 z3:=Tryz.sizeOf3
 v3:=Tryz.zeroValue3
 t5:=Tryz.underlying5
 a5:=Tryz.isAgg5
 z5:=Tryz.sizeOf5
 v5:=Tryz.zeroValue5
 t9:=Tryz.underlying9
 a9:=Tryz.isAgg9
 z9:=Tryz.sizeOf9
 v9:=Tryz.zeroValue9 }
open Go.RowKit in
theorem Tryz.strings_IndexByte (s : ByteArray) (c : Int) (w : World) :
  Calls Tryz.prog 100 #[.string s,.int .u8 c] w fun e w' => e = .returned (.int .i64 (Lib.indexByte s.data.toList c.toNat.toUInt8)) ∧ w' = w:=Any.strings_IndexByte Tryz.lays137 s c w
def Tryz.lays144_ren : Go.Shelf.Ren := ⟨fun | 144 => 19 | 143 => 36 | 219 => 67 | 217 => 91 | 225 => 92 | 224 => 93 | 267 => 94 | 266 => 115 | 314 => 116 | n => n, fun | 9 => 9 | 4 => 4 | 3 => 3 | 5 => 5 | 46 => 113 | 146 => 131 | 51 => 130 | n => n, fun | 1 => 0 | n => n⟩
theorem Tryz.lays144 : Go.Proofs.Lays.n144 Tryz.prog Tryz.lays144_ren := {
 mixed:=by kernel_rfl
 f143:=Tryz.func36.trans (congrArg some (by kernel_rfl))
 f144:=Tryz.func19.trans (congrArg some (by kernel_rfl))
 f217:=Tryz.func91.trans (congrArg some (by kernel_rfl))
 f219:=Tryz.func67.trans (congrArg some (by kernel_rfl))
 f224:=Tryz.func93.trans (congrArg some (by kernel_rfl))
 f225:=Tryz.func92.trans (congrArg some (by kernel_rfl))
 f266:=Tryz.func115.trans (congrArg some (by kernel_rfl))
 f267:=Tryz.func94.trans (congrArg some (by kernel_rfl))
 f314:=Tryz.func116.trans (congrArg some (by kernel_rfl))
 t3:=Tryz.underlying3
 a3:=Tryz.isAgg3
 z3:=Tryz.sizeOf3
 v3:=Tryz.zeroValue3
 t4:=Tryz.underlying4
 a4:=Tryz.isAgg4
 z4:=Tryz.sizeOf4
 v4:=Tryz.zeroValue4
 t5:=Tryz.underlying5
 a5:=Tryz.isAgg5
 z5:=Tryz.sizeOf5
 v5:=Tryz.zeroValue5
 t9:=Tryz.underlying9
 a9:=Tryz.isAgg9
 z9:=Tryz.sizeOf9
 v9:=Tryz.zeroValue9
 t46:=Tryz.underlying113
 a46:=Tryz.isAgg113
 z46:=Tryz.sizeOf113
 v46:=Tryz.zeroValue113
 t51:=Tryz.underlying130
 a51:=Tryz.isAgg130
 z51:=Tryz.sizeOf130
 v51:=Tryz.zeroValue130
 t146:=Tryz.underlying131
 a146:=Tryz.isAgg131
 z146:=Tryz.sizeOf131
 v146:=Tryz.zeroValue131
 g1:=by kernel_rfl }
open Go.RowKit Go.Lib in
theorem Tryz.strings_Contains (s sub : ByteArray) (m : Int) (w : World) (hs : s.size < 4294967281) (hm : w.cell? ⟨0, 0, none⟩ = some (.int .i64 m)) :
  Calls Tryz.prog 19 #[.string s,.string sub] w fun e w' => e = .returned (.bool (Lib.contains s.data.toList sub.data.toList)) ∧ w' = w:=Any.strings_Contains Tryz.lays144 s sub m w hs hm
def Tryz.lays145_ren : Go.Shelf.Ren := ⟨fun | 145 => 24 | 220 => 39 | 219 => 67 | 217 => 91 | 225 => 92 | 224 => 93 | 267 => 94 | 266 => 115 | 314 => 116 | n => n, fun | 9 => 9 | 4 => 4 | 59 => 51 | 3 => 3 | 5 => 5 | 46 => 113 | 146 => 131 | 51 => 130 | n => n, fun | 1 => 0 | n => n⟩
theorem Tryz.lays145 : Go.Proofs.Lays.n145 Tryz.prog Tryz.lays145_ren := {
 mixed:=by kernel_rfl
 f145:=Tryz.func24.trans (congrArg some (by kernel_rfl))
 f217:=Tryz.func91.trans (congrArg some (by kernel_rfl))
 f219:=Tryz.func67.trans (congrArg some (by kernel_rfl))
 f220:=Tryz.func39.trans (congrArg some (by kernel_rfl))
 f224:=Tryz.func93.trans (congrArg some (by kernel_rfl))
 f225:=Tryz.func92.trans (congrArg some (by kernel_rfl))
 f266:=Tryz.func115.trans (congrArg some (by kernel_rfl))
 f267:=Tryz.func94.trans (congrArg some (by kernel_rfl))
 f314:=Tryz.func116.trans (congrArg some (by kernel_rfl))
 t3:=Tryz.underlying3
 a3:=Tryz.isAgg3
 z3:=Tryz.sizeOf3
 v3:=Tryz.zeroValue3
 t4:=Tryz.underlying4
 a4:=Tryz.isAgg4
 z4:=Tryz.sizeOf4
 v4:=Tryz.zeroValue4
 t5:=Tryz.underlying5
 a5:=Tryz.isAgg5
 z5:=Tryz.sizeOf5
 v5:=Tryz.zeroValue5
 t9:=Tryz.underlying9
 a9:=Tryz.isAgg9
 z9:=Tryz.sizeOf9
 v9:=Tryz.zeroValue9
 t46:=Tryz.underlying113
 a46:=Tryz.isAgg113
 z46:=Tryz.sizeOf113
 v46:=Tryz.zeroValue113
 t51:=Tryz.underlying130
 a51:=Tryz.isAgg130
 z51:=Tryz.sizeOf130
 v51:=Tryz.zeroValue130
 t59:=Tryz.underlying51
 a59:=Tryz.isAgg51
 z59:=Tryz.sizeOf51
 v59:=Tryz.zeroValue51
 t146:=Tryz.underlying131
 a146:=Tryz.isAgg131
 z146:=Tryz.sizeOf131
 v146:=Tryz.zeroValue131
 g1:=by kernel_rfl }
open Go.RowKit Go.Lib in
theorem Tryz.strings_Cut (s sep : ByteArray) (m : Int) (w : World) (hs : s.size < 4294967281) (hm : w.cell? ⟨0, 0, none⟩ = some (.int .i64 m)) :
  Calls Tryz.prog 24 #[.string s,.string sep] w fun e w' => e = .returned (.tuple #[.string ⟨(Lib.cut s.data.toList sep.data.toList).1.toArray⟩,.string ⟨(Lib.cut s.data.toList sep.data.toList).2.1.toArray⟩,.bool (Lib.cut s.data.toList sep.data.toList).2.2]) ∧ ∃ n,w' = w.drewN n:=Any.strings_Cut Tryz.lays145 s sep m w hs hm
def Tryz.laysM145_ren : Go.Shelf.Ren := ⟨fun | 145 => 24 | 220 => 39 | 219 => 67 | 217 => 91 | 225 => 92 | 224 => 93 | 267 => 94 | 266 => 115 | 314 => 116 | n => n, fun | 9 => 9 | 4 => 4 | 59 => 51 | 3 => 3 | 5 => 5 | 46 => 113 | 146 => 131 | 51 => 130 | n => n, fun | 1 => 0 | n => n⟩
theorem Tryz.laysM145 : Go.Proofs.LaysM.n145 Tryz.prog Tryz.laysM145_ren := {
 mixed:=by kernel_rfl
 f145:=Tryz.func24.trans (congrArg some (by kernel_rfl))
 f217:=Tryz.func91.trans (congrArg some (by kernel_rfl))
 f219:=Tryz.func67.trans (congrArg some (by kernel_rfl))
 f220:=Tryz.func39.trans (congrArg some (by kernel_rfl))
 f224:=Tryz.func93.trans (congrArg some (by kernel_rfl))
 f225:=Tryz.func92.trans (congrArg some (by kernel_rfl))
 f266:=Tryz.func115.trans (congrArg some (by kernel_rfl))
 f267:=Tryz.func94.trans (congrArg some (by kernel_rfl))
 f314:=Tryz.func116.trans (congrArg some (by kernel_rfl))
 t3:=Tryz.underlying3
 a3:=Tryz.isAgg3
 z3:=Tryz.sizeOf3
 v3:=Tryz.zeroValue3
 t4:=Tryz.underlying4
 a4:=Tryz.isAgg4
 z4:=Tryz.sizeOf4
 v4:=Tryz.zeroValue4
 t5:=Tryz.underlying5
 a5:=Tryz.isAgg5
 z5:=Tryz.sizeOf5
 v5:=Tryz.zeroValue5
 t9:=Tryz.underlying9
 a9:=Tryz.isAgg9
 z9:=Tryz.sizeOf9
 v9:=Tryz.zeroValue9
 t46:=Tryz.underlying113
 a46:=Tryz.isAgg113
 z46:=Tryz.sizeOf113
 v46:=Tryz.zeroValue113
 t51:=Tryz.underlying130
 a51:=Tryz.isAgg130
 z51:=Tryz.sizeOf130
 v51:=Tryz.zeroValue130
 t59:=Tryz.underlying51
 a59:=Tryz.isAgg51
 z59:=Tryz.sizeOf51
 v59:=Tryz.zeroValue51
 t146:=Tryz.underlying131
 a146:=Tryz.isAgg131
 z146:=Tryz.sizeOf131
 v146:=Tryz.zeroValue131
 g1:=by kernel_rfl
 i3:=by kernel_rfl
 i4:=by kernel_rfl
 i5:=by kernel_rfl
 i9:=by kernel_rfl
 i46:=by kernel_rfl
 i51:=by kernel_rfl
 i59:=by kernel_rfl
 i146:=by kernel_rfl
 m1:=by kernel_rfl
 s1_3:=fun w h => Go.Proofs.cell_of_shapedOpen_int (zero:=#[.int .i64 0]) (t:=3) h (of_decide_eq_true (by kernel_rfl)) (by kernel_rfl) rfl (by kernel_rfl) (by kernel_rfl) Tryz.underlying3 }
def Tryz.laysGw15_ren : Go.Shelf.Ren := ⟨fun | 15 => 87 | 20 => 111 | n => n, fun | 9 => 9 | 23 => 109 | 3 => 3 | 4 => 4 | 0 => 0 | 21 => 21 | n => n, fun | n => n⟩
theorem Tryz.laysGw15 : Go.Proofs.LaysGw.n15 Tryz.prog Tryz.laysGw15_ren := {
 mixed:=by kernel_rfl
 f15:=Tryz.func87.trans (congrArg some (by kernel_rfl))
 f20:=Tryz.func111.trans (congrArg some (by kernel_rfl))
 t0:=Tryz.underlying0
 a0:=Tryz.isAgg0
 z0:=Tryz.sizeOf0
 v0:=Tryz.zeroValue0
 i0:=by kernel_rfl
 t3:=Tryz.underlying3
 a3:=Tryz.isAgg3
 z3:=Tryz.sizeOf3
 v3:=Tryz.zeroValue3
 i3:=by kernel_rfl
 t4:=Tryz.underlying4
 a4:=Tryz.isAgg4
 z4:=Tryz.sizeOf4
 v4:=Tryz.zeroValue4
 i4:=by kernel_rfl
 t9:=Tryz.underlying9
 a9:=Tryz.isAgg9
 z9:=Tryz.sizeOf9
 v9:=Tryz.zeroValue9
 i9:=by kernel_rfl
 t21:=Tryz.underlying21
 a21:=Tryz.isAgg21
 z21:=Tryz.sizeOf21
 v21:=Tryz.zeroValue21
 i21:=by kernel_rfl
 t23:=Tryz.underlying109
 a23:=Tryz.isAgg109
 z23:=Tryz.sizeOf109
 v23:=Tryz.zeroValue109
 i23:=by kernel_rfl }
open Go.RowKit Go.Lib in
theorem Tryz.strings_IndexFunc (g : Nat) (lb : Array Value) (eg : ∀ args w, (callFunc g args).run Tryz.prog w = .ok (.enter g args) w) (p : Nat → Bool) (s : ByteArray) (w : World) (hp : PredAt Tryz.prog g lb encR p w) :
  Calls Tryz.prog 87 #[.string s,.func (.func g) #[] lb] w fun e w' => e = .returned (.int .i64 (Lib.idxFunc p true s)) ∧ Below w.heap.size w w':=Any.strings_IndexFunc Tryz.laysGw15 g lb eg p s w hp
def Tryz.lays99_ren : Go.Shelf.Ren := ⟨fun | 99 => 20 | 206 => 37 | n => n, fun | 9 => 9 | 4 => 4 | 3 => 3 | n => n, fun | n => n⟩
theorem Tryz.lays99 : Go.Proofs.Lays.n99 Tryz.prog Tryz.lays99_ren := {
 mixed:=by kernel_rfl
 f99:=Tryz.func20.trans (congrArg some (by kernel_rfl))
 f206:=Tryz.func37.trans (congrArg some (by kernel_rfl))
 t3:=Tryz.underlying3
 a3:=Tryz.isAgg3
 z3:=Tryz.sizeOf3
 v3:=Tryz.zeroValue3
 t4:=Tryz.underlying4
 a4:=Tryz.isAgg4
 z4:=Tryz.sizeOf4
 v4:=Tryz.zeroValue4
 t9:=Tryz.underlying9
 a9:=Tryz.isAgg9
 z9:=Tryz.sizeOf9
 v9:=Tryz.zeroValue9 }
open Go.RowKit Go.Lib in
theorem Tryz.strings_HasPrefix (s p : ByteArray) (w : World) :
  Calls Tryz.prog 20 #[.string s,.string p] w fun e w' => e = .returned (.bool (Lib.hasPrefix s.data.toList p.data.toList)) ∧ w' = w:=Any.strings_HasPrefix Tryz.lays99 s p w
def Tryz.lays146_ren : Go.Shelf.Ren := ⟨fun | 146 => 35 | 221 => 66 | 268 => 89 | 138 => 90 | 143 => 36 | 195 => 112 | 197 => 113 | 218 => 114 | 219 => 67 | 260 => 133 | 217 => 91 | 225 => 92 | 224 => 93 | 267 => 94 | 266 => 115 | 314 => 116 | n => n, fun | 9 => 9 | 31 => 45 | 3 => 3 | 4 => 4 | 0 => 0 | 105 => 128 | 21 => 21 | 5 => 5 | 46 => 113 | 119 => 159 | 139 => 162 | 138 => 161 | 146 => 131 | 51 => 130 | n => n, fun | 1 => 0 | 3 => 1 | 4 => 2 | n => n⟩
theorem Tryz.lays146 : Go.Proofs.Lays.n146 Tryz.prog Tryz.lays146_ren := {
 mixed:=by kernel_rfl
 f138:=Tryz.func90.trans (congrArg some (by kernel_rfl))
 f143:=Tryz.func36.trans (congrArg some (by kernel_rfl))
 f146:=Tryz.func35.trans (congrArg some (by kernel_rfl))
 f195:=Tryz.func112.trans (congrArg some (by kernel_rfl))
 f197:=Tryz.func113.trans (congrArg some (by kernel_rfl))
 f217:=Tryz.func91.trans (congrArg some (by kernel_rfl))
 f218:=Tryz.func114.trans (congrArg some (by kernel_rfl))
 f219:=Tryz.func67.trans (congrArg some (by kernel_rfl))
 f221:=Tryz.func66.trans (congrArg some (by kernel_rfl))
 f224:=Tryz.func93.trans (congrArg some (by kernel_rfl))
 f225:=Tryz.func92.trans (congrArg some (by kernel_rfl))
 f260:=Tryz.func133.trans (congrArg some (by kernel_rfl))
 f266:=Tryz.func115.trans (congrArg some (by kernel_rfl))
 f267:=Tryz.func94.trans (congrArg some (by kernel_rfl))
 f268:=Tryz.func89.trans (congrArg some (by kernel_rfl))
 f314:=Tryz.func116.trans (congrArg some (by kernel_rfl))
 t0:=Tryz.underlying0
 a0:=Tryz.isAgg0
 z0:=Tryz.sizeOf0
 v0:=Tryz.zeroValue0
 t3:=Tryz.underlying3
 a3:=Tryz.isAgg3
 z3:=Tryz.sizeOf3
 v3:=Tryz.zeroValue3
 t4:=Tryz.underlying4
 a4:=Tryz.isAgg4
 z4:=Tryz.sizeOf4
 v4:=Tryz.zeroValue4
 t5:=Tryz.underlying5
 a5:=Tryz.isAgg5
 z5:=Tryz.sizeOf5
 v5:=Tryz.zeroValue5
 t9:=Tryz.underlying9
 a9:=Tryz.isAgg9
 z9:=Tryz.sizeOf9
 v9:=Tryz.zeroValue9
 t21:=Tryz.underlying21
 a21:=Tryz.isAgg21
 z21:=Tryz.sizeOf21
 v21:=Tryz.zeroValue21
 t31:=Tryz.underlying45
 a31:=Tryz.isAgg45
 z31:=Tryz.sizeOf45
 v31:=Tryz.zeroValue45
 t46:=Tryz.underlying113
 a46:=Tryz.isAgg113
 z46:=Tryz.sizeOf113
 v46:=Tryz.zeroValue113
 t51:=Tryz.underlying130
 a51:=Tryz.isAgg130
 z51:=Tryz.sizeOf130
 v51:=Tryz.zeroValue130
 t105:=Tryz.underlying128
 a105:=Tryz.isAgg128
 z105:=Tryz.sizeOf128
 v105:=Tryz.zeroValue128
 t119:=Tryz.underlying159
 a119:=Tryz.isAgg159
 z119:=Tryz.sizeOf159
 t138:=Tryz.underlying161
 a138:=Tryz.isAgg161
 z138:=Tryz.sizeOf161
 v138:=Tryz.zeroValue161
 t139:=Tryz.underlying162
 a139:=Tryz.isAgg162
 z139:=Tryz.sizeOf162
 v139:=Tryz.zeroValue162
 t146:=Tryz.underlying131
 a146:=Tryz.isAgg131
 z146:=Tryz.sizeOf131
 v146:=Tryz.zeroValue131
 g1:=by kernel_rfl
 g3:=by kernel_rfl
 g4:=by kernel_rfl }
open Go.RowKit Go.Lib in
theorem Tryz.strings_Split (s sep : ByteArray) (m : Int) (w : World) (hs : s.size < 4294967281) (hm : w.cell? ⟨0, 0, none⟩ = some (.int .i64 m)) (h1 : 1 ≤ sep.size) :
  Calls Tryz.prog 35 #[.string s,.string sep] w fun e w' =>
   e = .returned (.slice (some ⟨w.heap.size,0,none⟩) (Lib.countB s sep + 1) (Lib.countB s sep + 1)) ∧ w' = w.alloc (.cells ((Lib.splitB sep 0 (Lib.countB s sep) s).map Value.string).toArray 9):=Any.strings_Split Tryz.lays146 (by kernel_rfl) s sep m w hs hm h1
end Go.Proofs
end

section
namespace Go.Proofs.YtaokkkolbifdpaaGreatDoor.Hand
open Go.RowKit Go.Proofs.YtaokkkolbifdpaaGreatDoorW
open PrintWords PrintLast PrintMore
theorem wrap_in {x : Int} (h0 : -9223372036854775808 ≤ x) (h1 : x < 9223372036854775808) : wrap64 x = x := by
  unfold wrap64
  omega
theorem drawn_trans {a b c : World} (h : Drawn0 a b) (k : Drawn0 b c) : Drawn0 a c := by
  obtain ⟨n,rfl⟩:=h
  obtain ⟨m,rfl⟩:=k
  exact ⟨⟨n + m,World.drewN_drewN ..⟩⟩
def ofL (p : Int → Bool) (l : List UInt8) : Bool := l.all (fun b => p (b.toNat : Int)) && decide (0 < l.length ∧ l.length ≤ 32)
theorem word_of_walk (g : Nat) (eg : ∀ args w, (callFunc g args).run Tryz.prog w = .ok (.enter g args) w) (p : Int → Bool) (s : ByteArray) (w : World)
    (hg : ∀ (W : World) (c : Int),0 ≤ c → c ≤ 255 → Calls Tryz.prog g #[.int .u8 c] W fun e w' => e = .returned (.bool (p c)) ∧ Drawn0 W w') (hs : s.size ≤ 9223372036854775807) :
    Calls Tryz.prog 71 #[.string s,.func (.func g) #[] #[]] w fun e w' => e = .returned (.bool (ofL p s.data.toList)) ∧ Drawn0 w w':=by
  have HG:=aq hg
  have HS:=aq hs
  clear hg hs
  go_enter Tryz.func71,Tryz.ntmps71
  go_wp2_with fail
  go_loopg [8] s.size (fun kq v8 wr => ∃ i : Nat,v8 = .int .i64 (i : Int) ∧ i + kq = s.size ∧ Aside0 ((s.data.toList.take i).all (fun b => p (b.toNat : Int)) = true) ∧ Drawn0 w wr)
  case atStart => exact ⟨0,rfl,by omega,⟨rfl⟩,Drawn0.refl _⟩
  case round =>
    obtain ⟨i,rfl,hk,HA,HD⟩:=hrel
    by_cases hi : i < s.size
    · have hi1 : decide ((i : Int) < (s.size : Int)) = true:=decide_eq_true (by omega)
      have hi2 : decide (i < s.size) = true:=decide_eq_true hi
      have hi0 : decide (0 ≤ (i : Int)) = true:=decide_eq_true (by omega)
      have he : wrap64 ((i : Int) + 1) = ((i + 1 : Nat) : Int):=by have:=HS.out;rw [wrap_in (by omega) (by omega)];push_cast;rfl
      have hbt:=bt_at s (i : Int)
      have hi3 : (0 ≤ (i : Int)) = True:=eq_true (by omega)
      have hi4 : ((i : Int) < (s.size : Int)) = True:=eq_true (by omega)
      go_wp2_with fail
      have hc : (s[i].toNat : Int) ≤ 255:=by have:=s[i].toNat_lt;omega
      refine (HG.out wr _ (by omega) hc).mono ?_
      rintro e w2 ⟨rfl,hd⟩
      have HD2 : Drawn0 w w2:=drawn_trans HD hd
      clear hd HD
      generalize hb : p (s[i].toNat : Int) = b
      have hget : s.data.toList[i]? = some s[i]:=by
        rw [List.getElem?_eq_getElem (by rw [Array.length_toList];exact hi),Array.getElem_toList]
        rfl
      cases b with
      | true =>
        have HA2 : Aside0 ((s.data.toList.take (i + 1)).all (fun b => p (b.toNat : Int)) = true):=⟨by
          rw [List.take_add_one,hget,List.all_append,HA.out]
          simp [hb]⟩
        go_wp2
        go_roundg (gk - 1)
        case measure => omega
        case rel => exact ⟨i + 1,by rw [he],by omega,HA2,HD2⟩
      | false =>
        have HN : Aside0 (ofL p s.data.toList = false):=⟨by
          unfold ofL
          rw [show s.data.toList.all (fun b => p (b.toNat : Int)) = false from by
            rw [Bool.eq_false_iff]
            intro h
            have:=List.all_eq_true.1 h s[i] (List.mem_of_getElem? hget)
            rw [hb] at this
            cases this]
          rfl⟩
        clear hget
        go_wp2
        go_ret
        exact ⟨by rw [HN.out];rfl,HD2⟩
    · obtain rfl : i = s.size:=by omega
      have hi1 : decide ((s.size : Int) < (s.size : Int)) = false:=decide_eq_false (by omega)
      have hall : s.data.toList.all (fun b => p (b.toNat : Int)) = true:=by
        have:=HA.out
        rwa [List.take_of_length_le (by rw [Array.length_toList];exact Nat.le_refl _)] at this
      have HV : Aside0 (ofL p s.data.toList = (!s.toList.isEmpty && decide ((s.size : Int) ≤ 32))):=⟨by
        unfold ofL
        rw [hall,ByteArray.toList_eq,Bool.true_and,Array.length_toList,Bool.decide_and]
        have e1 : decide (0 < s.data.size) = !s.data.toList.isEmpty:=by
          cases h : s.data.toList with
          | nil => have : s.data.size = 0:=by rw [← Array.length_toList,h];rfl
                   rw [this];rfl
          | cons x l => have : s.data.size = l.length + 1:=by rw [← Array.length_toList,h];rfl
                        rw [this];simp
        rw [e1]
        congr 1
        show decide (s.size ≤ 32) = decide ((s.size : Int) ≤ 32)
        simp only [decide_eq_decide]
        omega⟩
      clear hi hall
      go_wp2
      · rename_i h0
        go_ret
        exact ⟨by rw [HV.out,h0];rfl,HD⟩
      · go_ret
        exact ⟨by rw [HV.out];rfl,HD⟩
def letterI (c : Int) : Bool := decide (65 ≤ c ∧ c ≤ 90) || decide (97 ≤ c ∧ c ≤ 122) || decide (48 ≤ c ∧ c ≤ 57) || decide (c = 95) || decide (c = 36)
def word_letter.f (a0 : Int) : Option Bool := some (letterI a0)
def sr04_letter.f (a0 : Int) : Option Bool := some (letterI a0)
theorem letter_eq (c : Int) : Q13.word_letter.f 4 c = some (letterI c) := by
 unfold Q13.word_letter.f letterI
 simp only [Q13.word_letter.j0,Q13.word_letter.j1,Q13.word_letter.j2]
 by_cases h1 : c = 95
 ·
  subst h1;decide
 by_cases h2 : c = 36
 ·
  subst h2;decide
 by_cases h3 : 65 ≤ c <;> by_cases h4 : c ≤ 90 <;> by_cases h5 : 97 ≤ c <;> by_cases h6 : c ≤ 122 <;> by_cases h7 : 48 ≤ c <;> by_cases h8 : c ≤ 57 <;> simp [*] <;> omega
theorem letterR_eq (c : Int) : Q13.sr04_letter.f c = some (letterI c) := by
 unfold Q13.sr04_letter.f letterI
 by_cases h1 : c = 95
 ·
  subst h1;decide
 by_cases h2 : c = 36
 ·
  subst h2;decide
 by_cases h3 : 65 ≤ c <;> by_cases h4 : c ≤ 90 <;> by_cases h5 : 97 ≤ c <;> by_cases h6 : c ≤ 122 <;> by_cases h7 : 48 ≤ c <;> by_cases h8 : c ≤ 57 <;> simp [*] <;> omega
theorem word_letter.calls (a0 : Int) (r : Bool) (w : World) (h : word_letter.f a0 = some r) :
  Calls Tryz.prog 73 #[.int .u8 a0] w fun e w' => e = .returned (.bool r) ∧ Drawn0 w w':=Q13.word_letter.calls 4 a0 r w ((letter_eq a0).trans h)
theorem sr04_letter.calls (a0 : Int) (r : Bool) (w : World) (h : sr04_letter.f a0 = some r) :
  Calls Tryz.prog 106 #[.int .u8 a0] w fun e w' => e = .returned (.bool r) ∧ Drawn0 w w':=Q13.sr04_letter.calls a0 r w ((letterR_eq a0).trans h)
def slashL (c : Int) : Bool := letterI c || decide (c = 47)
def initL : List UInt8 := [60, 99, 108, 105, 110, 105, 116, 62]
def nameL (l : List UInt8) : Bool := decide (l = initL) || ofL letterI l
def classL (l : List UInt8) : Bool := ofL slashL l
def word_Name.f (s : ByteArray) : Option Bool := if s.size ≤ 9223372036854775807 then some (nameL s.data.toList) else none
def word_Class.f (s : ByteArray) : Option Bool := if s.size ≤ 9223372036854775807 then some (classL s.data.toList) else none
theorem word_slash (c : Int) (w : World) : Calls Tryz.prog 72 #[.int .u8 c] w fun e w' => e = .returned (.bool (slashL c)) ∧ Drawn0 w w' := by
 obtain ⟨b,hb⟩ : ∃ b,b = letterI c:=⟨_,rfl⟩
 have HL:=aq (word_letter.calls c b w (by unfold word_letter.f;rw [hb]))
 have HV : Aside0 (slashL c = (b || decide (c = 47))):=⟨by unfold slashL;rw [hb]⟩
 clear hb
 go_enter Tryz.func72,Tryz.ntmps72
 go_wp2_with fail
 refine HL.out.mono ?_
 rintro e w1 ⟨rfl,hd⟩
 cases b with
 | true =>
  go_wp2
  go_ret
  exact ⟨by rw [HV.out];rfl,hd⟩
 | false =>
  go_wp2
  go_ret
  exact ⟨by rw [HV.out];first|rfl|simp,hd⟩
theorem word_Class.calls (a0 : ByteArray) (r : Bool) (w : World) (h : word_Class.f a0 = some r) :
  Calls Tryz.prog 43 #[.string a0] w fun e w' => e = .returned (.bool r) ∧ Drawn0 w w':=by
 unfold word_Class.f at h
 split at h
 ·
  rename_i hs
  obtain rfl:=Option.some.inj h
  have HW:=aq (word_of_walk 72 (by intro args w;rfl) slashL a0 w (fun W c _ _ => word_slash c W) hs)
  clear h hs
  go_enter Tryz.func43,Tryz.ntmps43
  go_wp2_with fail
  refine HW.out.mono ?_
  rintro e w1 ⟨rfl,hd⟩
  go_wp2
  go_ret
  exact ⟨rfl,hd⟩
 ·
  cases h
theorem word_Name.calls (a0 : ByteArray) (r : Bool) (w : World) (h : word_Name.f a0 = some r) :
  Calls Tryz.prog 48 #[.string a0] w fun e w' => e = .returned (.bool r) ∧ Drawn0 w w':=by
 unfold word_Name.f at h
 split at h
 ·
  rename_i hs
  obtain rfl:=Option.some.inj h
  have HW:=aq (word_of_walk 73 (by intro args w;rfl) letterI a0 w (fun W c _ _ => word_letter.calls c _ W rfl) hs)
  have HV : Aside0 (nameL a0.data.toList = ((a0.toList == [60,99,108,105,110,105,116,62]) || ofL letterI a0.data.toList)):=⟨by
   unfold nameL
   rw [ByteArray.toList_eq]
   congr 1
   rw [Bool.eq_iff_iff,decide_eq_true_iff,beq_iff_eq]
   rfl⟩
  clear h hs
  go_enter Tryz.func48,Tryz.ntmps48
  go_wp2_with fail
  ·
   rename_i h0
   go_ret
   refine ⟨?_,Drawn0.refl _⟩
   rw [HV.out,h0]
   rfl
  ·
   refine HW.out.mono ?_
   rintro e w1 ⟨rfl,hd⟩
   go_wp2
   go_ret
   exact ⟨by rw [HV.out];rfl,hd⟩
 ·
  cases h
def moreL (m : Int) (c : Int) : Bool := letterI c || decide (c = m)
theorem get_data (s : ByteArray) (i : Nat) (h : i < s.size) : s.data.toList[i]'(by rw [Array.length_toList]; exact h) = s[i] := by
 rw [Array.getElem_toList];rfl
theorem drop_data (s : ByteArray) (i : Nat) (h : i < s.size) : s.data.toList.drop i = s[i] :: s.data.toList.drop (i + 1) := by
 rw [List.drop_eq_getElem_cons (by rw [Array.length_toList];exact h),get_data s i h]
theorem bt_nat (s : ByteArray) (i : Nat) (h : i < s.size) : bt s (i : Int) = (s[i].toNat : Int) := by
 unfold bt
 rw [dif_pos (by simpa using h)]
 rfl
theorem all_loop (s : ByteArray) (m : Int) (hs : s.size ≤ 9223372036854775806) : ∀ (d i k : Nat), s.size - i = d → i ≤ s.size → d < k → Q13.sr04_all.l0 k s m i = some ((s.data.toList.drop i).all (fun b => moreL m (b.toNat : Int))) := by
 intro d
 induction d with
 | zero =>
  intro i k hd hi hk
  obtain ⟨k,rfl⟩ : ∃ j,k = j + 1:=⟨k - 1,by omega⟩
  rw [Q13.sr04_all.l0,if_neg (by omega),List.drop_of_length_le (by rw [Array.length_toList];show s.size ≤ i;omega)]
  rfl
 | succ d ih =>
  intro i k hd hi hk
  obtain ⟨k,rfl⟩ : ∃ j,k = j + 1:=⟨k - 1,by omega⟩
  have hlt : i < s.size:=by omega
  have ih:=ih (i + 1) k (by omega) (by omega) (by omega)
  push_cast at ih
  have e1 : sr04_letter.f (bt s i) = some (letterI (bt s i)):=rfl
  have e0 : Q13.sr04_letter.f (bt s i) = some (letterI (bt s i)):=letterR_eq _
  rw [Q13.sr04_all.l0,if_pos (by omega),if_pos (by omega),e0,Option.bind_some,wrap_in (by omega) (by omega),ih,drop_data s i hlt,List.all_cons,bt_nat s i hlt]
  unfold moreL
  cases letterI (s[i].toNat : Int) with
  | true => simp
  | false =>
   by_cases h : (s[i].toNat : Int) = m
   ·
    simp [h]
   ·
    simp [h]
theorem all_eq (s : ByteArray) (m : Int) (hs : s.size ≤ 9223372036854775806) : Q13.sr04_all.f (s.size + 2) s m = some (ofL (moreL m) s.data.toList) := by
 unfold Q13.sr04_all.f ofL
 have hl : s.data.toList.length = s.size:=by rw [Array.length_toList];rfl
 rw [hl]
 by_cases h1 : (s.size : Int) < 1
 ·
  rw [if_pos h1,Q13.sr04_all.j0,if_pos rfl,decide_eq_false (show ¬ (0 < s.size ∧ s.size ≤ 32) by omega),Bool.and_false]
 ·
  rw [if_neg h1,Q13.sr04_all.j0]
  by_cases h2 : (s.size : Int) > 32
  ·
   rw [if_pos (decide_eq_true h2),decide_eq_false (show ¬ (0 < s.size ∧ s.size ≤ 32) by omega),Bool.and_false]
  ·
   rw [if_neg (by rw [decide_eq_false h2];decide),decide_eq_true (show 0 < s.size ∧ s.size ≤ 32 by omega),Bool.and_true]
   exact all_loop s m hs s.size 0 (s.size + 1) rfl (by omega) (by omega)
theorem ofL_letter (l : List UInt8) : ofL (moreL 95) l = ofL letterI l := by
 have : moreL 95 = letterI:=by
  funext c
  unfold moreL
  by_cases h : c = 95
  ·
   subst h;decide
  ·
   rw [decide_eq_false h,Bool.or_false]
 rw [this]
def sr04_Name.f (s : ByteArray) : Option Bool := if s.size ≤ 9223372036854775806 then some (nameL s.data.toList) else none
def sr04_Class.f (s : ByteArray) : Option Bool := if s.size ≤ 9223372036854775806 then some (classL s.data.toList) else none
theorem classR_eq (s : ByteArray) (hs : s.size ≤ 9223372036854775806) : Q13.sr04_Class.f (s.size + 2) s = some (classL s.data.toList) := by
 unfold Q13.sr04_Class.f
 rw [all_eq s 47 hs]
 rfl
theorem nameR_eq (s : ByteArray) (hs : s.size ≤ 9223372036854775806) : Q13.sr04_Name.f (s.size + 2) s = some (nameL s.data.toList) := by
 unfold Q13.sr04_Name.f nameL initL
 rw [all_eq s 95 hs,ofL_letter,ByteArray.toList_eq]
 by_cases h : s.data.toList = [60,99,108,105,110,105,116,62]
 ·
  rw [if_pos h,decide_eq_true h,Bool.true_or]
 ·
  rw [if_neg h,decide_eq_false h,Bool.false_or]
  rfl
theorem sr04_Name.calls (a0 : ByteArray) (r : Bool) (w : World) (h : sr04_Name.f a0 = some r) :
  Calls Tryz.prog 59 #[.string a0] w fun e w' => e = .returned (.bool r) ∧ Drawn0 w w':=by
 unfold sr04_Name.f at h
 split at h
 ·
  rename_i hs
  exact Q13.sr04_Name.calls _ a0 r w ((nameR_eq a0 hs).trans h)
 ·
  cases h
theorem sr04_Class.calls (a0 : ByteArray) (r : Bool) (w : World) (h : sr04_Class.f a0 = some r) :
  Calls Tryz.prog 58 #[.string a0] w fun e w' => e = .returned (.bool r) ∧ Drawn0 w w':=by
 unfold sr04_Class.f at h
 split at h
 ·
  rename_i hs
  exact Q13.sr04_Class.calls _ a0 r w ((classR_eq a0 hs).trans h)
 ·
  cases h
theorem extract_size (s : ByteArray) (a b : Nat) : (s.extract a b).size ≤ s.size := by
 rw [ByteArray.size_extract]
 omega
end Go.Proofs.YtaokkkolbifdpaaGreatDoor.Hand
end

section
namespace Go.Proofs.YtaokkkolbifdpaaGreatDoor.Hand
def bl (s : ByteArray) : List UInt8 := s.data.toList
def lb (l : List UInt8) : ByteArray := ⟨l.toArray⟩
@[simp] theorem bl_lb (l : List UInt8) : bl (lb l) = l := rfl
@[simp] theorem lb_bl (s : ByteArray) : lb (bl s) = s := by cases s; simp [lb, bl]
theorem bl_inj {a b : ByteArray} (h : bl a = bl b) : a = b := by rw [← lb_bl a, ← lb_bl b, h]
theorem bl_len (s : ByteArray) : (bl s).length = s.size := by unfold bl; rw [Array.length_toList]; rfl
theorem lb_size (l : List UInt8) : (lb l).size = l.length := rfl
theorem bl_append (a b : ByteArray) : bl (a ++ b) = bl a ++ bl b := by simp [bl, ByteArray.data_append]
def seen (b : UInt8) : Bool := decide (32 ≤ b.toNat ∧ b.toNat ≤ 126)
def lin : List UInt8 → List (List UInt8) → List UInt8 → List (List UInt8) × Int × Int
 | cur,out,[] => if cur = [] then (out,0,0) else ([],1,(out.length : Int) + 1)
 | cur,out,b :: r => if b = 10 then lin [] (out ++ [cur]) r else if seen b = true then lin (cur ++ [b]) out r else ([],1,(out.length : Int) + 1)
def linesL (s : List UInt8) : List (List UInt8) × Int × Int := if s.length > 65536 then ([], 3, 0) else lin [] [] s
def textL (l : List (List UInt8)) : List UInt8 := l.flatMap (fun s => s ++ [10])
theorem textL_append (a b : List (List UInt8)) : textL (a ++ b) = textL a ++ textL b := by simp [textL]
theorem lin_back : ∀ (s cur : List UInt8) (out m : List (List UInt8)) (f : Int), lin cur out s = (m, 0, f) → textL out ++ cur ++ s = textL m ∧ f = 0
 | [],cur,out,m,f,h => by
  unfold lin at h
  split at h
  ·
   rename_i hc
   simp at h
   simp [hc,h]
  ·
   simp at h
 | b :: r,cur,out,m,f,h => by
  unfold lin at h
  split at h
  ·
   rename_i hb
   have:=lin_back r [] (out ++ [cur]) m f h
   rw [textL_append] at this
   simp [textL] at this ⊢
   rw [hb]
   exact this
  ·
   split at h
   ·
    have:=lin_back r (cur ++ [b]) out m f h
    simpa using this
   ·
    simp at h
def fld : List UInt8 → List UInt8 → List (List UInt8)
 | cur,[] => [cur]
 | cur,b :: r => if b = 32 then cur :: fld [] r else fld (cur ++ [b]) r
def fieldsL (s : List UInt8) : List (List UInt8) := fld [] s
def lineL : List (List UInt8) → List UInt8
 | [] => []
 | [x] => x
 | x :: y :: l => x ++ 32 :: lineL (y :: l)
theorem fld_ne : ∀ (s cur : List UInt8), fld cur s ≠ []
 | [],_ => by simp [fld]
 | b :: r,cur => by
  unfold fld
  split
  ·
   simp
  ·
   exact fld_ne r _
theorem lineL_cons (x : List UInt8) (l : List (List UInt8)) (h : l ≠ []) : lineL (x :: l) = x ++ 32 :: lineL l := by
 cases l with
 | nil => exact absurd rfl h
 | cons y l => rfl
theorem line_fld : ∀ (s cur : List UInt8), lineL (fld cur s) = cur ++ s
 | [],cur => by simp [fld,lineL]
 | b :: r,cur => by
  unfold fld
  split
  ·
   rename_i hb
   rw [lineL_cons _ _ (fld_ne _ _),line_fld r [],hb]
   simp
  ·
   rw [line_fld r]
   simp
theorem line_fields (s : List UInt8) : lineL (fieldsL s) = s := line_fld s []
def blank (l : List UInt8) : Bool := l.any (fun b => b == 32)
theorem fld_word : ∀ (x cur r : List UInt8), blank x = false → fld cur (x ++ 32 :: r) = (cur ++ x) :: fld [] r
 | [],cur,r,_ => by simp [fld]
 | b :: x,cur,r,h => by
  unfold blank at h
  simp only [List.any_cons,Bool.or_eq_false_iff] at h
  rw [List.cons_append,fld,if_neg (by simpa using h.1),fld_word x _ r h.2]
  simp
theorem fld_last : ∀ (x cur : List UInt8), blank x = false → fld cur x = [cur ++ x]
 | [],cur,_ => by simp [fld]
 | b :: x,cur,h => by
  unfold blank at h
  simp only [List.any_cons,Bool.or_eq_false_iff] at h
  rw [fld,if_neg (by simpa using h.1),fld_last x _ h.2]
  simp
end Go.Proofs.YtaokkkolbifdpaaGreatDoor.Hand
end

section
namespace Go.Proofs.YtaokkkolbifdpaaGreatDoor.Hand
section
variable (cls : List UInt8 → Bool)
abbrev Ty := Int × List UInt8
def rightT (t : Ty) : Bool := if t.1 = 3 ∨ t.1 = 5 then cls t.2 else decide (t.2 = [] ∧ 1 ≤ t.1 ∧ t.1 ≤ 5)
def textT (t : Ty) : List UInt8 :=
 if rightT cls t = true then (if t.1 = 1 then [86] else if t.1 = 2 then [73] else if t.1 = 3 then 76 :: (t.2 ++ [59]) else if t.1 = 4 then [91,73] else 91 :: 76 :: (t.2 ++ [59])) else []
def untilL (b : UInt8) : List UInt8 → Option (List UInt8 × List UInt8)
 | [] => none
 | x :: r => if x = b then some ([],r) else (untilL b r).map fun p => (x :: p.1,p.2)
def classT (k : Int) (r : List UInt8) : Option (Ty × List UInt8) := match untilL 59 r with
 | some (n,r') => if cls n = true then some ((k,n),r') else none
 | none => none
def flatT (d : Int) : List UInt8 → Option (Ty × List UInt8)
 | [] => none
 | x :: r => if x = 86 then (if d = 0 then some ((1,[]),r) else none) else if x = 73 then some ((2 + d,[]),r) else if x = 76 then classT cls (3 + d) r else none
def oneT : List UInt8 → Option (Ty × List UInt8)
 | [] => none
 | x :: r => if x = 91 then flatT cls 2 r else flatT cls 0 (x :: r)
def parseT (l : List UInt8) : Ty × Int := match oneT cls l with
 | some (t,[]) => (t,0)
 | _ => ((0,[]),1)
theorem until_some {b : UInt8} : ∀ (l n r : List UInt8), untilL b l = some (n, r) → l = n ++ b :: r ∧ b ∉ n
 | [],n,r,h => by simp [untilL] at h
 | x :: l,n,r,h => by
  unfold untilL at h
  split at h
  ·
   rename_i e
   simp at h
   obtain ⟨rfl,rfl⟩:=h
   simp [e]
  ·
   rename_i hx
   obtain ⟨⟨a,b'⟩,h1,h2⟩:=Option.map_eq_some_iff.1 h
   simp at h2
   obtain ⟨rfl,rfl⟩:=h2
   obtain ⟨h3,h4⟩:=until_some l a b' h1
   refine ⟨by rw [h3];rfl,?_⟩
   simp only [List.mem_cons,not_or]
   exact ⟨fun e => hx e.symm,h4⟩
theorem until_none {b : UInt8} : ∀ (l : List UInt8), untilL b l = none ↔ b ∉ l
 | [] => by simp [untilL]
 | x :: l => by
  unfold untilL
  by_cases h : x = b
  ·
   simp [h]
  ·
   rw [if_neg h,Option.map_eq_none_iff,until_none l]
   simp only [List.mem_cons,not_or]
   exact ⟨fun h2 => ⟨fun e => h e.symm,h2⟩,fun h2 => h2.2⟩
variable {cls} (hcls : ∀ n, cls n = true → 59 ∉ n)
include hcls
omit hcls in
theorem right_cases {t : Ty} (h : rightT cls t = true) : (t.1 = 1 ∧ t.2 = []) ∨ (t.1 = 2 ∧ t.2 = []) ∨ (t.1 = 3 ∧ cls t.2 = true) ∨ (t.1 = 4 ∧ t.2 = []) ∨ (t.1 = 5 ∧ cls t.2 = true) := by
 unfold rightT at h
 split at h
 ·
  rename_i e
  rcases e with e|e
  ·
   exact .inr (.inr (.inl ⟨e,h⟩))
  ·
   exact .inr (.inr (.inr (.inr ⟨e,h⟩)))
 ·
  rename_i e
  have h:=of_decide_eq_true h
  have : t.1 = 1 ∨ t.1 = 2 ∨ t.1 = 4:=by omega
  rcases this with e|e|e <;> simp [e,h.1]
omit hcls in
theorem classT_back {k : Int} {l : List UInt8} {t : Ty} {r : List UInt8} (h : classT cls k l = some (t, r)) : t.1 = k ∧ cls t.2 = true ∧ l = t.2 ++ 59 :: r := by
 unfold classT at h
 split at h
 ·
  rename_i n r' e
  split at h
  ·
   rename_i hc
   simp at h
   obtain ⟨rfl,rfl⟩:=h
   exact ⟨rfl,hc,(until_some _ _ _ e).1⟩
  ·
   cases h
 ·
  cases h
omit hcls in
theorem flat_back0 {l : List UInt8} {t : Ty} {r : List UInt8} (h : flatT cls 0 l = some (t, r)) : rightT cls t = true ∧ l = textT cls t ++ r := by
 cases l with
 | nil => cases h
 | cons x l =>
  rw [flatT] at h
  by_cases e : x = 86
  ·
   rw [if_pos e,if_pos rfl] at h
   simp at h
   obtain ⟨rfl,rfl⟩:=h
   subst e
   exact ⟨rfl,rfl⟩
  ·
   rw [if_neg e] at h
   by_cases e : x = 73
   ·
    rw [if_pos e] at h
    simp at h
    obtain ⟨rfl,rfl⟩:=h
    subst e
    exact ⟨rfl,rfl⟩
   ·
    rw [if_neg e] at h
    by_cases e : x = 76
    ·
     rw [if_pos e] at h
     subst e
     obtain ⟨h1,h2,h3⟩:=classT_back h
     obtain ⟨k,c⟩:=t
     simp only at h1 h2 h3
     subst h1
     have hr : rightT cls (3 + 0,c) = true:=by unfold rightT;simp [h2]
     refine ⟨hr,?_⟩
     unfold textT
     rw [if_pos hr,h3]
     simp
    ·
     rw [if_neg e] at h
     cases h
omit hcls in
theorem flat_back2 {l : List UInt8} {t : Ty} {r : List UInt8} (h : flatT cls 2 l = some (t, r)) : rightT cls t = true ∧ 91 :: l = textT cls t ++ r := by
 cases l with
 | nil => cases h
 | cons x l =>
  rw [flatT] at h
  by_cases e : x = 86
  ·
   rw [if_pos e,if_neg (by decide)] at h
   cases h
  ·
   rw [if_neg e] at h
   by_cases e : x = 73
   ·
    rw [if_pos e] at h
    simp at h
    obtain ⟨rfl,rfl⟩:=h
    subst e
    exact ⟨rfl,rfl⟩
   ·
    rw [if_neg e] at h
    by_cases e : x = 76
    ·
     rw [if_pos e] at h
     subst e
     obtain ⟨h1,h2,h3⟩:=classT_back h
     obtain ⟨k,c⟩:=t
     simp only at h1 h2 h3
     subst h1
     have hr : rightT cls (3 + 2,c) = true:=by unfold rightT;simp [h2]
     refine ⟨hr,?_⟩
     unfold textT
     rw [if_pos hr,h3]
     simp
    ·
     rw [if_neg e] at h
     cases h
omit hcls in
theorem one_back {l : List UInt8} {t : Ty} {r : List UInt8} (h : oneT cls l = some (t, r)) : rightT cls t = true ∧ l = textT cls t ++ r := by
 cases l with
 | nil => cases h
 | cons x l =>
  rw [oneT] at h
  by_cases e : x = 91
  ·
   rw [if_pos e] at h
   subst e
   exact flat_back2 h
  ·
   rw [if_neg e] at h
   exact flat_back0 h
variable (cls)
def paramT (t : Ty) : Bool := rightT cls t && decide (t.1 ≠ 1)
def descText (ret : Ty) (ps : List Ty) : List UInt8 := 40 :: (ps.flatMap (textT cls) ++ 41 :: textT cls ret)
def descD (ret : Ty) (ps : List Ty) : List UInt8 × Int :=
 if rightT cls ret = true ∧ ps.all (paramT cls) = true then (if ps.length > 8 then ([],3) else if (descText cls ret ps).length > 64 then ([],3) else (descText cls ret ps,0)) else ([],1)
def typesF : Nat → List UInt8 → Option (List Ty × List UInt8)
 | 0,_ => none
 | f + 1,l => if l.head? = some 41 then some ([],l.tail) else match oneT cls l with
  | some (t,r) => if t.1 = 1 then none else (typesF f r).map fun p => (t :: p.1,p.2)
  | none => none
def splitD (l : List UInt8) : List Ty × Ty × Int :=
 if l.length > 64 then ([],(0,[]),3) else if l.head? = some 40 then (match typesF cls 65 l.tail with
  | some (ps,r) => (match oneT cls r with
   | some (t,[]) => if ps.length ≤ 8 then (ps,t,0) else ([],(0,[]),3)
   | _ => ([],(0,[]),1))
  | none => ([],(0,[]),1)) else ([],(0,[]),1)
variable {cls}
omit hcls in
theorem text_ne {t : Ty} (h : rightT cls t = true) : ∃ x r, textT cls t = x :: r ∧ x ≠ 41 := by
 unfold textT
 rw [if_pos h]
 split
 ·
  exact ⟨_,_,rfl,by decide⟩
 ·
  split
  ·
   exact ⟨_,_,rfl,by decide⟩
  ·
   split
   ·
    exact ⟨_,_,rfl,by decide⟩
   ·
    split
    ·
     exact ⟨_,_,rfl,by decide⟩
    ·
     exact ⟨_,_,rfl,by decide⟩
omit hcls in
theorem types_back : ∀ (f : Nat) (l : List UInt8) (ps : List Ty) (r : List UInt8), typesF cls f l = some (ps, r) → l = ps.flatMap (textT cls) ++ 41 :: r ∧ ps.all (paramT cls) = true
 | 0,_,_,_,h => by cases h
 | f + 1,l,ps,r,h => by
  unfold typesF at h
  split at h
  ·
   rename_i hl
   simp at h
   obtain ⟨rfl,rfl⟩:=h
   cases l with
   | nil => cases hl
   | cons x l => simp at hl;simp [hl]
  ·
   split at h
   ·
    rename_i t r' e
    split at h
    ·
     cases h
    ·
     rename_i ht
     obtain ⟨⟨ps',r2⟩,h1,h2⟩:=Option.map_eq_some_iff.1 h
     simp at h2
     obtain ⟨rfl,rfl⟩:=h2
     obtain ⟨h3,h4⟩:=types_back f r' ps' r2 h1
     obtain ⟨h5,h6⟩:=one_back e
     refine ⟨by rw [h6,h3];simp,?_⟩
     rw [List.all_cons,h4]
     unfold paramT
     simp [h5,ht]
   ·
    cases h
omit hcls in
theorem desc_split {d : List UInt8} {ret : Ty} {ps : List Ty} (h : splitD cls d = (ps, ret, 0)) : descD cls ret ps = (d, 0) := by
 unfold splitD at h
 split at h
 ·
  simp at h
 ·
  rename_i hl
  split at h
  ·
   rename_i hh
   split at h
   ·
    rename_i ps' r e
    split at h
    ·
     rename_i t e2
     split at h
     ·
      rename_i h8
      simp at h
      obtain ⟨rfl,rfl⟩:=h
      obtain ⟨h1,h2⟩:=types_back _ _ _ _ e
      obtain ⟨h3,h4⟩:=one_back e2
      rw [List.append_nil] at h4
      have hd : d = descText cls t ps':=by
       cases d with
       | nil => cases hh
       | cons x d =>
        simp at hh h1
        unfold descText
        rw [hh,h1,h4]
      unfold descD
      rw [if_pos ⟨h3,h2⟩,if_neg (by omega),← hd,if_neg hl]
     ·
      simp at h
    ·
     simp at h
   ·
    simp at h
  ·
   simp at h
def newOf (l : List (List UInt8 × List UInt8)) (c : List UInt8) : List UInt8 := match l.find? (fun p => p.1 = c) with
 | some p => p.2
 | none => c
def renT (l : List (List UInt8 × List UInt8)) (t : Ty) : Ty := if t.1 = 3 ∨ t.1 = 5 then (t.1, newOf l t.2) else t
variable (cls)
def renD (d : List UInt8) (l : List (List UInt8 × List UInt8)) : List UInt8 := match splitD cls d with
 | (ps,r,e) => if e = 0 then (descD cls (renT l r) (ps.map (renT l))).1 else []
def classesD (d : List UInt8) : List (List UInt8) := match splitD cls d with
 | (ps,r,e) => if e = 0 then ((ps ++ [r]).map (·.2)).filter (fun c => !c.isEmpty) else []
variable {cls}
omit hcls in
theorem types_right {d : List UInt8} {ps : List Ty} {r : Ty} (hs : splitD cls d = (ps, r, 0)) : ∀ t ∈ ps ++ [r], rightT cls t = true := by
 have h:=desc_split hs
 unfold descD at h
 split at h
 ·
  rename_i h1
  intro t ht
  simp only [List.mem_append,List.mem_singleton] at ht
  rcases ht with ht|ht
  ·
   have:=List.all_eq_true.1 h1.2 t ht
   unfold paramT at this
   simp only [Bool.and_eq_true] at this
   exact this.1
  ·
   rw [ht];exact h1.1
 ·
  simp at h
end
end Go.Proofs.YtaokkkolbifdpaaGreatDoor.Hand
end

section
namespace Go.Proofs.YtaokkkolbifdpaaGreatDoor.Hand
open Go.RowKit Go.Shelf Go.Proofs.YtaokkkolbifdpaaGreatDoorW.PrintWords Go.Proofs.YtaokkkolbifdpaaGreatDoorW.PrintLast Go.Proofs.YtaokkkolbifdpaaGreatDoorW.PrintMore
theorem bt_bl (s : ByteArray) (i : Nat) (h : i < s.size) : ∃ b, (bl s)[i]? = some b ∧ bt s i = (b.toNat : Int) ∧ (bl s).drop i = b :: (bl s).drop (i + 1) := by
 refine ⟨s[i],?_,bt_nat s i h,drop_data s i h⟩
 unfold bl
 rw [List.getElem?_eq_getElem (by rw [Array.length_toList];exact h),get_data s i h]
theorem cut_until (c : UInt8) : ∀ l : List UInt8, Lib.cut l [c] = match untilL c l with | some (n, r) => (n, r, true) | none => (l, [], false)
 | [] => by simp [Lib.cut,Lib.index,untilL]
 | b :: l => by
  have ih:=cut_until c l
  have hge:=Lib.index_ge l [c]
  unfold Lib.cut at ih ⊢
  rw [Lib.index]
  by_cases h : b = c
  ·
   subst h
   have : List.isPrefixOf [b] (b :: l) = true:=by simp [List.isPrefixOf]
   rw [if_pos this]
   simp [untilL]
  ·
   have hp : List.isPrefixOf [c] (b :: l) = false:=by simp [List.isPrefixOf];exact fun e => h e.symm
   rw [hp]
   simp only [Bool.false_eq_true,if_false]
   by_cases hi : Lib.index l [c] = -1
   ·
    rw [hi] at ih ⊢
    simp only [beq_self_eq_true,if_true] at ih ⊢
    rw [if_neg (by decide)] at ih
    rw [if_neg (by decide)]
    cases hu : untilL c l with
    | none => rw [untilL,if_neg h,hu];rfl
    | some p => rw [hu] at ih;simp at ih
   ·
    have hb : (Lib.index l [c] == -1) = false:=beq_eq_false_iff_ne.2 hi
    rw [hb]
    simp only [Bool.false_eq_true,if_false]
    rw [if_pos (by omega)] at ih
    rw [if_pos (by omega)]
    cases hu : untilL c l with
    | none => rw [hu] at ih;simp at ih
    | some p =>
     rw [hu] at ih
     simp only [Prod.mk.injEq,and_true] at ih
     rw [untilL,if_neg h,hu]
     have e : (Lib.index l [c] + 1).toNat = (Lib.index l [c]).toNat + 1:=by omega
     simp only [Option.map_some,Prod.mk.injEq,and_true]
     rw [e,List.take_succ_cons,ih.1]
     refine ⟨rfl,?_⟩
     rw [show (Lib.index l [c]).toNat + 1 + [c].length = ((Lib.index l [c]).toNat + [c].length) + 1 from by omega,List.drop_succ_cons]
     exact ih.2
def MaxL (w : World) : Prop := ∃ m, w.cell? ⟨0, 0, none⟩ = some (.int .i64 m)
theorem max_below {w w' : World} (h : MaxL w) (hb : Below w.heap.size w w') : MaxL w' := by
 obtain ⟨m,hm⟩:=h
 exact ⟨m,pw_cell_below hb hm⟩
theorem MaxL.below {w w' : World} (h : MaxL w) (hb : Below w.heap.size w w') : MaxL w' := max_below h hb
theorem MaxL.drawn {w w' : World} (h : MaxL w) (hd : Drawn0 w w') : MaxL w' := max_below h hd.below
theorem max_set {w : World} {b : Nat} (h : MaxL w) (hb : b ≠ 0) (v : Value) : MaxL (w.setCell ⟨b, 0, none⟩ v) := by
 obtain ⟨m,hm⟩:=h
 refine ⟨m,?_⟩
 rw [World.cell?_setCell_other]
 ·
  exact hm
 ·
  intro e;cases e;exact hb rfl
theorem grown_drewN (w : World) (n b : Nat) : w.grownBy (w.drewN n) (some b) := grown_of_below (pw_below_drewN (Below.refl _ w) n) _
end Go.Proofs.YtaokkkolbifdpaaGreatDoor.Hand
end

section
namespace Go.Proofs.YtaokkkolbifdpaaGreatDoor.Hand
open Go.RowKit Go.Proofs.YtaokkkolbifdpaaGreatDoorW
open PrintWords PrintLast PrintMore
structure S102 where
 f0 : Int
 f1 : ByteArray
def z102 : S102 := ⟨(0 : Int), (⟨#[]⟩ : ByteArray)⟩
def k102 : Kd S102 := Kd.iso (Kd.pair (Kd.int .i64) Kd.string) (fun x : S102 => (x.f0, x.f1))
theorem k102_open {w : World} {x : S102} {cs : List Value} (h : k102.K w x cs) : cs = [.int .i64 x.f0, .string x.f1] := by
 obtain ⟨_,_,rfl,rfl,rfl⟩:=h
 exact rfl
theorem k102_openM {w : World} {base : Nat} {ok : Nat → Prop} {x : S102} {cs : List Value} (h : k102.M w base ok x cs) : cs = [.int .i64 x.f0, .string x.f1] := by
 obtain ⟨_,_,rfl,rfl,rfl⟩:=h
 exact rfl
theorem k102_mk (w : World) (x : S102)  : k102.K w x [.int .i64 x.f0, .string x.f1] := ⟨[.int .i64 x.f0], [.string x.f1], rfl, rfl, rfl⟩
theorem k102_mkM (w : World) (base : Nat) (ok : Nat → Prop) (x : S102)  : k102.M w base ok x [.int .i64 x.f0, .string x.f1] := ⟨[.int .i64 x.f0], [.string x.f1], rfl, rfl, rfl⟩
def rd_T102 (xs : List S102) (i : Int) : S102 := xs.getD i.toNat z102
theorem at_T102 {w : World} {A : Option Addr} {n : Nat} {xs : List S102} (h : Kd.C k102 w A n xs) (i : Int) (h0 : 0 ≤ i) (h1 : i < n) : ∃ ad , A = some ad ∧ w.cell? (ad.add (i.toNat * 2)) = some (.int .i64 (rd_T102 xs i).f0) ∧ w.cell? ⟨(ad.add (i.toNat * 2)).block, (ad.add (i.toNat * 2)).off + 1, none⟩ = some (.string (rd_T102 xs i).f1) := by
 obtain ⟨ad,c,e,_,hK,hc0⟩:=Kd.C_get h z102 i h0 h1
 have hc : ∀ j u,c[j]? = some u → w.cell? (ad.add (i.toNat * 2 + j)) = some u:=hc0
 obtain rfl:=k102_open hK
 exact ⟨ad,e,hc 0 _ rfl,by rw [← add_field _ _ 1 (by omega)];exact hc 1 _ rfl⟩
structure S23 where
 f0 : ByteArray
 f1 : ByteArray
def z23 : S23 := ⟨(⟨#[]⟩ : ByteArray), (⟨#[]⟩ : ByteArray)⟩
def k23 : Kd S23 := Kd.iso (Kd.pair Kd.string Kd.string) (fun x : S23 => (x.f0, x.f1))
theorem k23_open {w : World} {x : S23} {cs : List Value} (h : k23.K w x cs) : cs = [.string x.f0, .string x.f1] := by
 obtain ⟨_,_,rfl,rfl,rfl⟩:=h
 exact rfl
theorem k23_mk (w : World) (x : S23)  : k23.K w x [.string x.f0, .string x.f1] := ⟨[.string x.f0], [.string x.f1], rfl, rfl, rfl⟩
theorem k23_mkM (w : World) (base : Nat) (ok : Nat → Prop) (x : S23)  : k23.M w base ok x [.string x.f0, .string x.f1] := ⟨[.string x.f0], [.string x.f1], rfl, rfl, rfl⟩
def rd_T23 (xs : List S23) (i : Int) : S23 := xs.getD i.toNat z23
theorem at_T23 {w : World} {A : Option Addr} {n : Nat} {xs : List S23} (h : Kd.C k23 w A n xs) (i : Int) (h0 : 0 ≤ i) (h1 : i < n) : ∃ ad , A = some ad ∧ w.cell? (ad.add (i.toNat * 2)) = some (.string (rd_T23 xs i).f0) ∧ w.cell? ⟨(ad.add (i.toNat * 2)).block, (ad.add (i.toNat * 2)).off + 1, none⟩ = some (.string (rd_T23 xs i).f1) := by
 obtain ⟨ad,c,e,_,hK,hc0⟩:=Kd.C_get h z23 i h0 h1
 have hc : ∀ j u,c[j]? = some u → w.cell? (ad.add (i.toNat * 2 + j)) = some u:=hc0
 obtain rfl:=k23_open hK
 exact ⟨ad,e,hc 0 _ rfl,by rw [← add_field _ _ 1 (by omega)];exact hc 1 _ rfl⟩
theorem isEmpty_bl (s : ByteArray) : (bl s).isEmpty = decide (s.size = 0) := by
 rw [Bool.eq_iff_iff,List.isEmpty_iff,decide_eq_true_iff,← bl_len,List.length_eq_zero_iff]
def oddR (x : Nat) : Bool := decide (x < 32) || decide (126 < x)
theorem plain_idx (s : ByteArray) : ∀ (f pos : Nat), s.size - pos ≤ f → (Lib.idxFuncFrom oddR true s f pos < 0 ↔ ((bl s).drop pos).all seen = true) := by
 intro f
 induction f with
 | zero =>
  intro pos h
  rw [List.drop_of_length_le (by rw [bl_len];omega)]
  simp [Lib.idxFuncFrom]
 | succ f ih =>
  intro pos h
  by_cases hp : pos < s.size
  ·
   obtain ⟨b,hb1,hb2,hdr⟩:=bt_bl s pos hp
   have hbs : s[pos].toNat = b.toNat:=by have:=bt_nat s pos hp;rw [hb2] at this;omega
   rw [Lib.idxFuncFrom,if_pos hp,hdr,List.all_cons]
   by_cases ha : b.toNat < 128
   ·
    have hd:=decode_ascii s pos hp (by rw [hbs];exact ha)
    rw [hd,hbs]
    by_cases ho : oddR b.toNat = true
    ·
     rw [if_pos ho]
     have : seen b = false:=by
      unfold oddR at ho
      unfold seen
      simp at ho ⊢
      omega
     rw [this]
     simp
    ·
     rw [if_neg ho]
     have : seen b = true:=by
      unfold oddR at ho
      unfold seen
      simp at ho ⊢
      omega
     rw [this,Bool.true_and]
     exact ih (pos + 1) (by omega)
   ·
    have hd:=(decode_high s pos hp (by rw [hbs];omega)).1
    have ho : oddR (Utf8.decode s pos).1 = true:=by unfold oddR;simp;omega
    have : seen b = false:=by unfold seen;simp;omega
    rw [if_pos ho,this]
    simp
  ·
   rw [Lib.idxFuncFrom,if_neg hp,List.drop_of_length_le (by rw [bl_len];omega)]
   simp
theorem plain_iff (s : ByteArray) : decide (Lib.idxFunc oddR true s < 0) = (bl s).all seen := by
 have:=plain_idx s s.size 0 (by omega)
 rw [List.drop_zero] at this
 rw [Bool.eq_iff_iff,decide_eq_true_iff]
 exact this
theorem plain_pred (w : World) : PredAt Tryz.prog 88 #[] encR oddR w := fun W r _ => by
 unfold FnGives
 show Calls Tryz.prog 88 #[.int .i32 (r : Int)] W _
 by_cases h1 : r < 32
 ·
  have hv : Aside0 (oddR r = true):=⟨by unfold oddR;simp;omega⟩
  have h2 : decide ((r : Int) < 32) = true:=decide_eq_true (by omega)
  clear h1
  go_enter Tryz.func88,Tryz.ntmps88
  go_wp2
  go_ret
  exact ⟨by rw [hv.out];rfl,0,rfl⟩
 ·
  have h2 : decide ((r : Int) < 32) = false:=decide_eq_false (by omega)
  by_cases h3 : 126 < r
  ·
   have hv : Aside0 (oddR r = true):=⟨by unfold oddR;simp;omega⟩
   have h4 : decide ((126 : Int) < (r : Int)) = true:=decide_eq_true (by omega)
   clear h1 h3
   go_enter Tryz.func88,Tryz.ntmps88
   go_wp2
   go_ret
   exact ⟨by rw [hv.out];rfl,0,rfl⟩
  ·
   have hv : Aside0 (oddR r = false):=⟨by unfold oddR;simp;omega⟩
   have h4 : decide ((126 : Int) < (r : Int)) = false:=decide_eq_false (by omega)
   clear h1 h3
   go_enter Tryz.func88,Tryz.ntmps88
   go_wp2
   go_ret
   exact ⟨by rw [hv.out];rfl,0,rfl⟩
def word_plain.f (s : ByteArray) : Option Bool := some ((bl s).all seen)
theorem word_plain.calls (a0 : ByteArray) (r : Bool) (w : World) (h : word_plain.f a0 = some r) :
  Calls Tryz.prog 65 #[.string a0] w fun e w' => e = .returned (.bool r) ∧ Below w.heap.size w w':=by
 obtain rfl:=Option.some.inj h
 clear h
 have HW:=aq (Tryz.strings_IndexFunc 88 #[] (by intro args w;rfl) oddR a0 w (plain_pred w))
 have HV:=aq (plain_iff a0)
 obtain ⟨x,hx⟩ : ∃ x,x = Lib.idxFunc oddR true a0:=⟨_,rfl⟩
 rw [← hx] at HW HV
 clear hx
 go_enter Tryz.func65,Tryz.ntmps65
 go_wp2_with fail
 refine HW.out.mono ?_
 rintro e w1 ⟨rfl,hb⟩
 go_wp2
 go_ret
 exact ⟨by rw [← HV.out];rfl,hb⟩
end Go.Proofs.YtaokkkolbifdpaaGreatDoor.Hand
end

section
namespace Go.Proofs.YtaokkkolbifdpaaGreatDoor.Hand
open Go.RowKit Go.Shelf
variable {F : Fence} {n : Nat} {P : Program} {α : Type}
def SameBlk (K : Nat → Prop) (X Y : World) : Prop := ∀ i, K i → Y.heap[i]? = X.heap[i]?
def Holds {β : Type} (b : Nat) (J : β → World → Prop) : Prop := ∀ s X Y, J s X → X.grownBy Y (some b) → J s Y
def SeqBox (F : Fence) (n : Nat) (P : Program) (gf : Nat) (lb : Array Value) (encs : α → Array Value) (b N : Nat) (K : Nat → Prop) (A0 : World → Prop) (S Sp : List α → Prop) : Prop :=
 ∀ (l : Nat) (J Jx : List α → World → Prop) (W : World),A0 W → Holds b J → Holds b Jx →
  (∀ pre x X,J pre X → pre.length < N → YieldAt F (n - 1) P l (encs x) X fun e Y =>
   (e = .returned (.bool true) ∧ J (pre ++ [x]) Y ∧ SameBlk K X Y) ∨ (e = .returned (.bool false) ∧ Jx (pre ++ [x]) Y)) →
  J [] W →
  CallsIn F n P gf (#[.func (.yield l) #[] #[]] ++ lb) W fun e Y => (∃ v,e = .returned v) ∧ ((∃ xs,S xs ∧ J xs Y) ∨ (∃ pre,Sp pre ∧ Jx pre Y))
def HoldsAll {β : Type} (B b : Nat) (J : β → World → Prop) : Prop :=
 ∀ s X Y row,J s X → X.grownBy Y row → (∀ r,row = some r → r = b ∨ (B ≤ r ∧ ∃ o : Obj,X.heap[r]? = some o ∧ o.isCells = false)) → J s Y
theorem HoldsAll.box {β : Type} {B b : Nat} {J : β → World → Prop} (h : HoldsAll B b J) : Holds b J := fun s X Y hs hg => h s X Y _ hs hg (fun r e => .inl (by cases e; rfl))
theorem HoldsAll.put {β : Type} {B b : Nat} {J : β → World → Prop} (h : HoldsAll B b J) {s : β} {W : World} {l : Nat} {o : Obj} (o' : Obj) (hs : J s W) (hB : B ≤ l) (hl : W.heap[l]? = some o) (ho : o.isCells = false) : J s (W.putObj l o') :=
 h s W _ (some l) hs (grownBy_putObj' W l o') (fun r e => by cases e;exact .inr ⟨hB,o,hl,ho⟩)
theorem HoldsAll.lay {β : Type} {B b : Nat} {J : β → World → Prop} (h : HoldsAll B b J) {s : β} {W : World} (o : Obj) (hs : J s W) : J s (W.alloc o) :=
 h s W _ none hs (World.grownBy_alloc W o none) (fun r e => by cases e)
theorem range_box {g : Operand} {ps : Array Tmp} {assign body : Code} {Q : Exit → Act → World → Prop} {a : Act} {w : World}
  (hro : F.round = none) (h1 : 1 ≤ n) {gf : Nat} {lb : Array Value} (hg : a.eval g = .func (.func gf) #[] lb) (hFg : F.fn gf) (eg : ∀ args w,(callFunc gf args).run P w = .ok (.enter gf args) w)
  {encs : α → Array Value} (hps : ∀ x,(encs x).size = ps.size) {b N : Nat} (hb : b < w.heap.size) {Kb : Nat → Prop} (hKb : ∀ i,Kb i → i < w.heap.size) {A0 : World → Prop} {S Sp : List α → Prop} (hseq : SeqBox F (n - 1) P gf lb encs b N Kb A0 S Sp)
  (hA : ∀ W,Below w.heap.size w W → A0 W)
  (I : List α → World → Prop) (Ix : Code → List α → World → Prop) (hI : HoldsAll w.heap.size b I) (hIx : ∀ c,HoldsAll w.heap.size b (Ix c)) (h0 : I [] w) (a₁ : α → Act)
  (hassign : ∀ (l : Nat) (x : α) (W : World) (K : Act → World → Prop),K (a₁ x) W →
   assign.wpIn (F.inRound l) (n - 1 - 1) P (Exit.then K (fun _ _ _ => False)) { tmps:=(ps.zip (encs x)).foldl (fun t (p,v) => t.setIfInBounds p v) a.tmps,defers:=[] } W)
  (hbody : ∀ (l : Nat) (pre : List α) (x : α) (W : World),I pre W → pre.length < N → body.wpIn (F.inRound l) (n - 1 - 1) P (ownPostK (SameBlk Kb) I Ix (pre ++ [x]) W) (a₁ x) W)
  (hdone : ∀ (D : Nat) (xs : List α) (W : World),w.heap.size ≤ D → S xs → I xs W → W.heap[D]? = some (.deferred (some [])) → Q .normal { a with defers:={ target:=.collected D,args:=#[] } :: a.defers } W)
  (hstop : ∀ (D : Nat) (c : Code) (pre : List α) (W : World),w.heap.size ≤ D → Sp pre → Ix c pre W → W.heap[D]? = some (.deferred (some [])) → c.wpIn F n P Q { a with defers:={ target:=.collected D,args:=#[] } :: a.defers } W) :
  (Code.rangeFunc g ps assign body).wpIn F n P Q a w:=by
 refine wpIn_rangeFunc fun fn hfn => ?_
 rw [hro]
 let R0 : Loop:={ state:=.ready,pending:=none,fn:=fn,tmps:=a.tmps,params:=ps,assign:=assign,body:=body,defers:=w.heap.size }
 obtain ⟨R,hR⟩ : ∃ R : Loop,R = R0:=⟨_,rfl⟩
 obtain ⟨L,hL⟩ : ∃ L,L = w.heap.size + 1:=⟨_,rfl⟩
 obtain ⟨W1,hW1⟩ : ∃ W1,W1 = (w.alloc (.deferred (some []))).alloc (.loop R):=⟨_,rfl⟩
 have hbk : Below w.heap.size w W1:=hW1 ▸ ((Below.refl _ w).alloc (Nat.le_refl _) _).alloc (by simp) _
 have hLoop : W1.heap[L]? = some (.loop R):=by
  have:=World.alloc_heap_new (w.alloc (.deferred (some []))) (.loop R)
  rw [World.size_alloc] at this
  rw [hW1,hL]
  exact this
 have hDef : W1.heap[w.heap.size]? = some (.deferred (some [])):=by
  rw [hW1]
  exact (Below.heap_alloc _ _ _ (by simp)).trans (World.alloc_heap_new w _)
 have hI1 : I [] W1:=hW1 ▸ hI.lay _ (hI.lay _ h0)
 -- what the loop's book-keeping keeps between two rounds, and behind the last one
 let Between : List α → World → Prop:=fun pre X => I pre X ∧ X.heap[L]? = some (.loop R) ∧ X.heap[w.heap.size]? = some (.deferred (some []))
 let Behind : List α → World → Prop:=fun pre X => ∃ c,Ix c pre X ∧ X.heap[L]? = some (.loop { R with state:=.done,pending:=some c }) ∧ X.heap[w.heap.size]? = some (.deferred (some []))
 have far : ∀ {X Y : World} {i : Nat} {o : Obj},X.grownBy Y (some b) → w.heap.size ≤ i → X.heap[i]? = some o → Y.heap[i]? = some o:=fun hg hi ho =>
  (hg.block _ (Array.getElem?_eq_some_iff.1 ho).1 (fun e => by cases e;omega)).trans ho
 have hB1 : Holds b Between:=fun s X Y hs hg => ⟨hI.box s X Y hs.1 hg,far hg (by omega) hs.2.1,far hg (Nat.le_refl _) hs.2.2⟩
 have hB2 : Holds b Behind:=fun s X Y ⟨c,hc,hl,hd⟩ hg => ⟨c,(hIx c).box s X Y hc hg,far hg (by omega) hl,far hg (Nat.le_refl _) hd⟩
 refine ⟨L,[{ target:=.collected w.heap.size,args:=#[] }],W1,{ target:=.fn (.func gf) lb,args:=#[.func (.yield L) #[] #[]] },W1,gf,#[.func (.yield L) #[] #[]] ++ lb,W1,?_,?_,?_,?_,fun _ => h1,?_⟩
 ·
  rw [hW1,hL,hR]
  exact run_enterLoop_outer _ _ _ _ _
 ·
  simp only [resolve,hg]
  simp [go_sem]
 ·
  intro f' hf'
  simp [Target.leads] at hf'
  exact hf' ▸ hFg
 ·
  simp [invoke,go_sem,eg]
 refine (hseq L Between Behind W1 (hA W1 hbk) hB1 hB2 ?_ ⟨hI1,hLoop,hDef⟩).mono ?_
 ·
  -- a round
  rintro pre x X ⟨hi,hl,hd⟩ hN
  have hy:=run_yield (P:=P) (args:=encs x) hl (by rw [hR];exact hps x)
  have hfn' : R.fn = fn:=by rw [hR]
  refine ⟨_,_,_,_,hy,roundIn_of_wpIn (by rw [hfn'];exact hfn) ?_⟩
  have e1 : R.assign = assign:=by rw [hR]
  have e2 : R.params = ps:=by rw [hR]
  have e3 : R.tmps = a.tmps:=by rw [hR]
  have e4 : R.body = body:=by rw [hR]
  have e5 : R.state = .ready:=by rw [hR]
  rw [e1,e2,e3,e4]
  refine hassign L x X _ ⟨_,run_beginRound hl e5,?_⟩
  have hlt : L < X.heap.size:=(Array.getElem?_eq_some_iff.1 hl).1
  obtain ⟨Z,hZ⟩ : ∃ Z,Z = X.putObj L (.loop { R with state:=.busy }):=⟨_,rfl⟩
  have hlZ : Z.heap[L]? = some (.loop { R with state:=.busy }):=by rw [hZ];exact World.putObj_heap_same hlt
  have hdZ : Z.heap[w.heap.size]? = some (.deferred (some [])):=by rw [hZ];exact (World.putObj_heap_other (by omega)).trans hd
  have hbZ : SameBlk Kb X Z:=fun i hi => by have:=hKb i hi;rw [hZ];exact World.putObj_heap_other (by omega)
  have hiZ : I pre Z:=by rw [hZ];exact hI.put _ hi (by omega) hl rfl
  rw [← hZ]
  refine wpIn_mono (hbody L pre x Z hiZ hN) ?_
  have ends : ∀ (j : Option Code) (Y : World),KeepsOthers Z Y → Y.heap[L]? = some (.loop { R with state:=.busy }) ∧
    (Instr.endRound L j).run P Y = .ok (.bool j.isNone) (Y.putObj L (.loop { R with state:=if j.isNone then .ready else .done,pending:=j })) ∧
    (Y.putObj L (.loop { R with state:=if j.isNone then .ready else .done,pending:=j })).heap[L]? = some (.loop { R with state:=if j.isNone then .ready else .done,pending:=j }) ∧
    (Y.putObj L (.loop { R with state:=if j.isNone then .ready else .done,pending:=j })).heap[w.heap.size]? = some (.deferred (some [])):=fun j Y hk => by
   have hlY:=hk.same _ _ hlZ rfl
   refine ⟨hlY,?_,World.putObj_heap_same (Array.getElem?_eq_some_iff.1 hlY).1,(World.putObj_heap_other (by omega)).trans (hk.same _ _ hdZ rfl)⟩
   exact run_endRound (P:=P) (r:={ R with state:=.busy }) j hlY
  have left : ∀ (c : Code) (Y : World),KeepsOthers Z Y → Ix c (pre ++ [x]) Y → ∃ v W',(Instr.endRound L (some c)).run P Y = .ok v W' ∧
    ((Ending.returned v = .returned (.bool true) ∧ Between (pre ++ [x]) W' ∧ SameBlk Kb X W') ∨ (Ending.returned v = .returned (.bool false) ∧ Behind (pre ++ [x]) W')):=fun c Y hk hx => by
   obtain ⟨hlY,hr,hl2,hd2⟩:=ends (some c) Y hk
   exact ⟨_,_,hr,.inr ⟨rfl,c,(hIx c).put _ hx (by omega) hlY rfl,hl2,hd2⟩⟩
  rintro e a3 Y hp
  cases e with
  | normal =>
   obtain ⟨hk,hs,hi3⟩:=hp
   obtain ⟨hlY,hr,hl2,hd2⟩:=ends none Y hk
   have e6 : ({ R with state:=.ready,pending:=none } : Loop) = R:=by rw [hR]
   simp only [Option.isNone_none,if_true,e6] at hr hl2 hd2
   exact ⟨_,_,hr,.inl ⟨rfl,⟨hI.put _ hi3 (by omega) hlY rfl,hl2,hd2⟩,fun i hi => by have h2:=hKb i hi;exact (World.putObj_heap_other (by omega)).trans ((hs i hi).trans (hbZ i hi))⟩⟩
  | ret => exact left .ret Y hp.1 hp.2
  | exit id => exact left (.exit id) Y hp.1 hp.2
  | goto t => exact left (.goto t) Y hp.1 hp.2
  | panic ch => exact hp.elim
  | outgrown => exact hp.elim
 ·
  rintro e Y ⟨⟨v,rfl⟩,(⟨xs,hS,hi,hl,hd⟩|⟨pre,hSp,c,hx,hl,hd⟩)⟩
  ·
   have e5 : R.state ≠ .busy:=by rw [hR];simp [R0]
   have e7 : R.pending = none:=by rw [hR]
   have:=run_endLoop (P:=P) hl e5
   rw [e7] at this
   exact ⟨none,_,this,hdone _ xs _ (Nat.le_refl _) hS (hI.put _ hi (by omega) hl rfl) ((World.putObj_heap_other (by omega)).trans hd)⟩
  ·
   exact ⟨some c,_,run_endLoop (P:=P) hl (by simp),hstop _ c pre _ (Nat.le_refl _) hSp ((hIx c).put _ hx (by omega) hl rfl) ((World.putObj_heap_other (by omega)).trans hd)⟩
end Go.Proofs.YtaokkkolbifdpaaGreatDoor.Hand
end

section
namespace Go.Proofs.YtaokkkolbifdpaaGreatDoor.Hand
open Go.RowKit Go.Shelf Go.Proofs.YtaokkkolbifdpaaGreatDoorW.PrintWords Go.Proofs.YtaokkkolbifdpaaGreatDoorW.PrintLast Go.Proofs.YtaokkkolbifdpaaGreatDoorW.PrintMore
def segsF : Nat → List UInt8 → List (ByteArray × Bool)
 | 0,_ => []
 | f + 1,l => if l = [] then [] else match untilL 10 l with
  | some (x,r) => (lb x,true) :: segsF f r
  | none => [(lb l,false)]
def goodS (x : ByteArray × Bool) : Bool := x.2 && (bl x.1).all seen
def runS : List ByteArray → List (ByteArray × Bool) → List ByteArray × Int × Int
 | out,[] => (out,0,0)
 | out,x :: r => if goodS x = true then runS (out ++ [x.1]) r else ([],1,(out.length : Int) + 1)
theorem lin_seg (x : List UInt8) : ∀ (cur : List UInt8) (out : List (List UInt8)) (r : List UInt8), 10 ∉ x → lin cur out (x ++ 10 :: r) = if x.all seen = true then lin [] (out ++ [cur ++ x]) r else ([], 1, (out.length : Int) + 1) := by
 induction x with
 | nil => intro cur out r _;simp [lin]
 | cons b x ih =>
  intro cur out r h
  simp only [List.mem_cons,not_or] at h
  rw [List.cons_append,lin,if_neg (fun e => h.1 e.symm),List.all_cons]
  by_cases hb : seen b = true
  ·
   rw [if_pos hb,ih _ _ _ h.2,hb,Bool.true_and]
   simp
  ·
   rw [if_neg hb,if_neg]
   simp [hb]
theorem lin_last (x : List UInt8) : ∀ (cur : List UInt8) (out : List (List UInt8)), 10 ∉ x → (cur ≠ [] ∨ x ≠ []) → lin cur out x = ([], 1, (out.length : Int) + 1) := by
 induction x with
 | nil => intro cur out _ h;rw [lin,if_neg (by rcases h with h|h;exact h;exact absurd rfl h)]
 | cons b x ih =>
  intro cur out h _
  simp only [List.mem_cons,not_or] at h
  rw [lin,if_neg (fun e => h.1 e.symm)]
  by_cases hb : seen b = true
  ·
   rw [if_pos hb,ih _ _ h.2 (.inl (by simp))]
  ·
   rw [if_neg hb]
theorem run_segs : ∀ (f : Nat) (l : List UInt8) (out : List (List UInt8)), l.length ≤ f → runS (out.map lb) (segsF f l) = (((lin [] out l).1).map lb, (lin [] out l).2)
 | 0,l,out,h => by
  have : l = []:=List.length_eq_zero_iff.1 (by omega)
  subst this
  simp [segsF,runS,lin]
 | f + 1,l,out,h => by
  unfold segsF
  by_cases hl : l = []
  ·
   subst hl;simp [runS,lin]
  ·
   rw [if_neg hl]
   cases hu : untilL 10 l with
   | none =>
    have hn:=(until_none l).1 hu
    rw [lin_last l [] out hn (.inr hl)]
    simp [runS,goodS]
   | some p =>
    obtain ⟨x,r⟩:=p
    obtain ⟨e,hx⟩:=until_some l x r hu
    have hr : r.length ≤ f:=by rw [e] at h;simp at h;omega
    rw [e,lin_seg x [] out r hx]
    simp only [runS,goodS,bl_lb,Bool.true_and]
    by_cases ha : x.all seen = true
    ·
     rw [if_pos ha,if_pos ha]
     have:=run_segs f r (out ++ [x]) hr
     rw [List.map_append] at this
     exact this
    ·
     rw [if_neg ha,if_neg ha]
     simp
end Go.Proofs.YtaokkkolbifdpaaGreatDoor.Hand
end

section
namespace Go.Proofs.YtaokkkolbifdpaaGreatDoor.Hand
open Go.RowKit Go.Shelf Go.Proofs.YtaokkkolbifdpaaGreatDoorW.PrintWords Go.Proofs.YtaokkkolbifdpaaGreatDoorW.PrintLast Go.Proofs.YtaokkkolbifdpaaGreatDoorW.PrintMore
attribute [local go_sem] Oper.semAt_some
abbrev encS (x : ByteArray × Bool) : Array Value := #[.string x.1, .bool x.2]
def leftB (b : Nat) (w : World) : Nat := match w.cell? ⟨b, 0, none⟩ with | some (.string r) => r.size | _ => 0
theorem leftB_eq {b : Nat} {w : World} {r : ByteArray} {t : TypeId} (h : Boxed w b t (.string r)) : leftB b w = r.size := by
 unfold leftB
 rw [h.cell]
def segOf (r : ByteArray) : ByteArray × Bool := (⟨(Lib.cut r.data.toList [10]).1.toArray⟩, (Lib.cut r.data.toList [10]).2.2)
def restOf (r : ByteArray) : ByteArray := ⟨(Lib.cut r.data.toList [10]).2.1.toArray⟩
theorem segs_step (r : ByteArray) (hr : r.size ≠ 0) (f : Nat) (hf : r.size ≤ f + 1) : segsF (f + 1) (bl r) = segOf r :: segsF f (bl (restOf r)) ∧ (restOf r).size ≤ f := by
 have hne : bl r ≠ []:=by intro e;apply hr;rw [← bl_len,e];rfl
 unfold segOf restOf
 rw [segsF,if_neg hne,show r.data.toList = bl r from rfl,cut_until]
 cases hu : untilL 10 (bl r) with
 | none =>
  refine ⟨?_,Nat.zero_le _⟩
  cases f with
  | zero => rfl
  | succ f => simp only [segsF];rfl
 | some p =>
  obtain ⟨x,q⟩:=p
  obtain ⟨e,_⟩:=until_some _ x q hu
  refine ⟨rfl,?_⟩
  have:=bl_len r
  rw [e] at this
  simp at this
  show q.length ≤ f
  omega
theorem max_same {K : Nat → Prop} {X Y : World} (h : MaxL X) (hs : SameBlk K X Y) (hk : K 0) : MaxL Y := by
 obtain ⟨m,hm⟩:=h
 refine ⟨m,?_⟩
 have:=hs _ hk
 unfold World.cell? at hm ⊢
 rw [this]
 exact hm
theorem each_seq (n : Nat) (s : ByteArray) (b : Nat) (hs : s.size < 4294967281) :
  SeqBox Fence.wide n Tryz.prog 86 #[.pointer (some ⟨b,0,none⟩)] encS b (s.size + 1) (fun i => i = b ∨ i = 0) (fun W => Boxed W b 9 (.string s) ∧ MaxL W)
   (fun xs => xs = segsF s.size (bl s)) (fun pre => pre <+: segsF s.size (bl s)):=fun l J Jx W hA hJ hJx hY h0 => by
 obtain ⟨hbox,hmax⟩:=hA
 have hb0 : b ≠ 0:=by
  rintro rfl
  obtain ⟨m,hm⟩:=hmax
  rw [hbox.cell] at hm
  cases hm
 have HB0:=aq hb0
 have HM0:=aq hmax
 have HS:=aq hs
 clear hs hb0 hmax
 refine callsIn_of_wp Tryz.func86 rfl trivial ?_ rfl
 simp only [Tryz.ntmps86,List.size_toArray,List.length_cons,List.length_nil,Nat.reduceAdd,Nat.reduceSub,Array.replicate_succ,Array.replicate_zero,List.push_toArray,List.append_toArray,List.nil_append,List.cons_append]
 gi_wp2
 gi_loopw [3] (fun _ wr => ∃ (pre : List (ByteArray × Bool)) (r : ByteArray) (f : Nat),J pre wr ∧ Aside0 (Boxed wr b 9 (.string r)) ∧ Aside0 (MaxL wr) ∧ Aside0 (segsF s.size (bl s) = pre ++ segsF f (bl r)) ∧ Aside0 (r.size ≤ f ∧ pre.length + f = s.size)) (fun _ wr => leftB b wr)
 case atStart => exact ⟨[],s,s.size,h0,⟨hbox⟩,HM0,⟨rfl⟩,⟨Nat.le_refl _,by simp⟩⟩
 case round =>
  obtain ⟨pre,r,f,hJ0,HBx,HM,HSg,HF⟩:=hrel
  have hc:=HBx.out.cell
  have hfr:=HBx.out.frozen
  by_cases hr : r.size = 0
  ·
   have hr1 : r.toList = []:=by rw [ByteArray.toList_eq];exact List.length_eq_zero_iff.1 ((bl_len r).trans hr)
   have hr2 : r.toList.isEmpty = true:=by rw [hr1];rfl
   have HZ : Aside0 (segsF s.size (bl s) = pre):=⟨by
    have e : bl r = []:=List.length_eq_zero_iff.1 ((bl_len r).trans hr)
    rw [HSg.out,e]
    cases f <;> simp [segsF]⟩
   clear hr
   gi_wp2
   go_end0
   exact ⟨⟨_,rfl⟩,.inl ⟨pre,HZ.out.symm,hJ0⟩⟩
  ·
   have hr2 : r.toList.isEmpty = false:=by
    rw [ByteArray.toList_eq]
    have:=isEmpty_bl r
    rw [decide_eq_false hr] at this
    exact this
   have hr1 : ¬ r.toList = []:=fun e => by rw [e] at hr2;cases hr2
   have HR:=aq hr
   clear hr
   obtain ⟨m,hm⟩:=HM.out
   have HC:=aq (Tryz.strings_Cut r ⟨#[10]⟩ m wr (by have:=HF.out;have:=HS.out;omega) hm)
   clear hm
   obtain ⟨f,rfl⟩ : ∃ g,f = g + 1:=⟨f - 1,by have:=HF.out;have:=HR.out;omega⟩
   have HT:=aq (segs_step r HR.out f (by have:=HF.out;omega))
   gi_wp2_with fail
   refine ⟨trivial,(fun h => by cases h),?_⟩
   refine (callsIn_wide.2 HC.out).mono ?_
   rintro e w1 ⟨rfl,n1,rfl⟩
   clear HC
   have hJ1:=hJ _ _ _ hJ0 (grown_drewN wr n1 b)
   have HM1:=aq (max_below HM.out (pw_below_drewN (Below.refl _ wr) n1))
   have HB1:=aq (show Boxed (wr.drewN n1) b 9 (.string r) from HBx.out)
   obtain ⟨fn,tmps,assign,body,hy,hR⟩:=hY pre (segOf r) _ hJ1 (by have:=HF.out;omega)
   dsimp only [encS,segOf] at hy
   clear hc hfr
   gi_wp2
   refine ⟨(fun h => by cases h),?_⟩
   refine hR.mono ?_
   rintro e W3 (⟨rfl,hJ3,hk3⟩|⟨rfl,hJx3⟩)
   ·
    have hB3 : Boxed W3 b 9 (.string r):=(hk3 b (.inl rfl)).trans HB1.out
    have HM3:=aq (max_same HM1.out hk3 (.inr rfl))
    have HB3:=aq hB3
    have hc3:=hB3.cell
    have hf3:=hB3.frozen
    have hJ4:=hJ _ _ _ hJ3 (grownBy_setCell' W3 b (.string (restOf r)))
    have HB4:=aq (hB3.set (.string (restOf r)))
    have HM4:=aq (max_set HM3.out HB0.out (.string (restOf r)))
    clear hk3 hB3
    gi_wp2
    go_roundw
    case rel => exact ⟨pre ++ [segOf r],restOf r,f,hJ4,HB4,HM4,⟨by rw [HSg.out,HT.out.1];simp⟩,⟨HT.out.2,by have:=HF.out;simp;omega⟩⟩
    case measure =>
     have e1:=leftB_eq HB4.out
     have e2:=leftB_eq HBx.out
     have e3 : (restOf r).size < r.size:=by
      have h1:=HR.out
      have:=(segs_step r h1 (r.size - 1) (by omega)).2
      omega
     show leftB b _ < leftB b wr
     rw [e2]
     exact lt_of_eq_of_lt e1 e3
   ·
    gi_wp2
    refine bodyPost_ret (results_none rfl _ _ _) rfl ?_
    exact ⟨⟨_,rfl⟩,.inr ⟨_,⟨segsF f (bl (restOf r)),by rw [HSg.out,HT.out.1];simp⟩,hJx3⟩⟩
end Go.Proofs.YtaokkkolbifdpaaGreatDoor.Hand
end

section
namespace Go.Proofs.YtaokkkolbifdpaaGreatDoor.Hand
open Go.RowKit Go.Shelf Go.Proofs.YtaokkkolbifdpaaGreatDoorW.PrintWords Go.Proofs.YtaokkkolbifdpaaGreatDoorW.PrintLast Go.Proofs.YtaokkkolbifdpaaGreatDoorW.PrintMore
attribute [local go_sem] Oper.semAt_some
theorem word_each (s : ByteArray) (w : World) :
  Calls Tryz.prog 64 #[.string s] w fun e w' => e = .returned (.func (.func 86) #[] #[.pointer (some ⟨w.heap.size,0,none⟩)]) ∧ w' = w.alloc (.cells #[.string s] 9):=by
 have hmf : ∀ (fn : Fn) (first cap : Array Value) (w : World),(Instr.makeFunc fn first cap).run Tryz.prog w = .ok (.func fn first cap) w:=fun _ _ _ _ => rfl
 go_enter Tryz.func64,Tryz.ntmps64
 go_wp2
 go_ret
 exact ⟨rfl,rfl⟩
theorem lines_info : (Tryz.prog.info? 9).map (fun i => (i.zero, i.size, i.bytes)) = some (some (.string ⟨#[]⟩), 1, 16) := by kernel_rfl
abbrev FltT : TypeId := 40
abbrev StrsT : TypeId := 45
def LinesI (w : World) (pre : List (ByteArray × Bool)) (W : World) : Prop :=
 (∀ x ∈ pre,goodS x = true) ∧ (∃ v,Boxed W (w.heap.size + 1 + 1) StrsT v ∧ W.ownsRow (w.heap.size + 4) 9 1 v pre.length (pre.map fun x => Value.string x.1)) ∧
 Boxed W w.heap.size StrsT (.slice none 0 0) ∧ W.heap[w.heap.size + 1]? = some (.cells #[.int .i64 0,.int .i64 0] FltT (0,0)) ∧ Below w.heap.size w W ∧ w.heap.size + 4 ≤ W.heap.size
def LinesX (w : World) (c : Code) (pre : List (ByteArray × Bool)) (W : World) : Prop :=
 c = .ret ∧ ∃ q x,pre = q ++ [x] ∧ (∀ y ∈ q,goodS y = true) ∧ goodS x = false ∧ Boxed W w.heap.size StrsT (.slice none 0 0) ∧
  W.heap[w.heap.size + 1]? = some (.cells #[.int .i64 1,.int .i64 ((q.length : Int) + 1)] FltT (0,0)) ∧ Below w.heap.size w W ∧ w.heap.size + 4 ≤ W.heap.size
theorem Boxed_alloc2 {W : World} {g : Nat} {cs : Array Value} {t : TypeId} {o o1 : Obj} (h : W.heap[g]? = some (.cells cs t (0, 0))) : ((W.alloc o).alloc o1).heap[g]? = some (.cells cs t (0, 0)) :=
 blk_grown (blk_grown h (World.grownBy_alloc W o none) (by simp)) (World.grownBy_alloc _ o1 none) (by simp)
theorem blk_stays {X Y : World} {row : Option Nat} {B b g : Nat} {cs : Array Value} {t : TypeId} (h : X.heap[g]? = some (.cells cs t (0, 0))) (hg : X.grownBy Y row)
  (hr : ∀ r,row = some r → r = b ∨ (B ≤ r ∧ ∃ o : Obj,X.heap[r]? = some o ∧ o.isCells = false)) (hne : g ≠ b) : Y.heap[g]? = some (.cells cs t (0,0)):=by
 refine (hg.block g (Array.getElem?_eq_some_iff.1 h).1 fun e => ?_).trans h
 rcases hr g e.symm with h1|⟨_,o,ho,hc⟩
 ·
  exact hne h1
 ·
  rw [h] at ho;cases ho;cases hc
theorem row_stays {X Y : World} {row : Option Nat} {B b base : Nat} {e : TypeId} {v : Value} {k : Nat} {xs : List Value} (h : X.ownsRow base e 1 v k xs) (hg : X.grownBy Y row)
  (hr : ∀ r,row = some r → r = b ∨ (B ≤ r ∧ ∃ o : Obj,X.heap[r]? = some o ∧ o.isCells = false)) (hb : b < base) : Y.ownsRow base e 1 v k xs:=by
 rcases h.2 with ⟨hv,_⟩|⟨g,cap,cur,hv,hbg,hh,_⟩
 ·
  exact h.kept hg (.inl (by rw [hv];rfl))
 ·
  refine h.kept hg (.inr fun ev => ?_)
  have ev' : row = some g:=by rw [← ev,hv];rfl
  rcases hr g ev' with h1|⟨_,o,ho,hc⟩
  ·
   omega
  ·
   rw [hh] at ho;cases ho;cases hc
theorem linesI_holds (w : World) : HoldsAll (w.heap.size + 4) (w.heap.size + 3) (LinesI w) := fun pre X Y row ⟨h1, ⟨v, hv, hrow⟩, h2, h3, h4, h5⟩ hg hr =>
 ⟨h1,⟨v,blk_stays hv hg hr (by omega),row_stays hrow hg hr (by omega)⟩,blk_stays h2 hg hr (by omega),blk_stays h3 hg hr (by omega),
  h4.grown hg h4.size (fun k e => by rcases hr k e with h|⟨h,_⟩ <;> omega),Nat.le_trans h5 hg.size⟩
theorem linesX_holds (w : World) (c : Code) : HoldsAll (w.heap.size + 4) (w.heap.size + 3) (LinesX w c) := fun pre X Y row ⟨hc, q, x, h0, h1, hx, h2, h3, h4, h5⟩ hg hr =>
 ⟨hc,q,x,h0,h1,hx,blk_stays h2 hg hr (by omega),blk_stays h3 hg hr (by omega),h4.grown hg h4.size (fun k e => by rcases hr k e with h|⟨h,_⟩ <;> omega),Nat.le_trans h5 hg.size⟩
theorem own_lower {W : World} {base base' : Nat} {e : TypeId} {size : Nat} {v : Value} {k : Nat} {xs : List Value} (h : W.ownsRow base e size v k xs) (hb : base' ≤ base) : W.ownsRow base' e size v k xs := by
 refine ⟨h.1,h.2.imp id ?_⟩
 rintro ⟨g,cap,cur,h1,h2,h3⟩
 exact ⟨g,cap,cur,h1,Nat.le_trans hb h2,h3⟩
theorem run_good : ∀ (l : List (ByteArray × Bool)) (out : List ByteArray), (∀ x ∈ l, goodS x = true) → runS out l = (out ++ l.map (·.1), 0, 0)
 | [],out,_ => by simp [runS]
 | x :: l,out,h => by
  rw [runS,if_pos (h x (by simp)),run_good l _ (fun y hy => h y (by simp [hy]))]
  simp
theorem run_bad : ∀ (q : List (ByteArray × Bool)) (x : ByteArray × Bool) (r : List (ByteArray × Bool)) (out : List ByteArray), (∀ y ∈ q, goodS y = true) → goodS x = false → runS out (q ++ x :: r) = ([], 1, (out.length : Int) + q.length + 1)
 | [],x,r,out,_,hx => by rw [List.nil_append,runS,hx];simp
 | y :: q,x,r,out,h,hx => by
  rw [List.cons_append,runS,if_pos (h y (by simp)),run_bad q x r _ (fun z hz => h z (by simp [hz])) hx]
  simp
  omega
theorem linesX_both (w W : World) (pre : List (ByteArray × Bool)) (x : ByteArray × Bool) (h1 : ∀ y ∈ pre, goodS y = true) (hx : goodS x = false) (h2 : Boxed W w.heap.size StrsT (.slice none 0 0))
  (h3 : W.heap[w.heap.size + 1]? = some (.cells #[.int .i64 0,.int .i64 0] FltT (0,0))) (h4 : Below w.heap.size w W) (h5 : w.heap.size + 4 ≤ W.heap.size) :
  (KeepsOthers W (((W.setCell ⟨w.heap.size,0,none⟩ (.slice none 0 0)).setCell ⟨w.heap.size + 1,0,none⟩ (.int .i64 1)).setCell ⟨w.heap.size + 1,1,none⟩ (.int .i64 ((pre.length : Int) + 1))).drew ∧
   LinesX w .ret (pre ++ [x]) (((W.setCell ⟨w.heap.size,0,none⟩ (.slice none 0 0)).setCell ⟨w.heap.size + 1,0,none⟩ (.int .i64 1)).setCell ⟨w.heap.size + 1,1,none⟩ (.int .i64 ((pre.length : Int) + 1))).drew) ∧
  (KeepsOthers W (((W.setCell ⟨w.heap.size + 1,0,none⟩ (.int .i64 1)).setCell ⟨w.heap.size + 1,1,none⟩ (.int .i64 ((pre.length : Int) + 1))).setCell ⟨w.heap.size,0,none⟩ (.slice none 0 0)).drew ∧
   LinesX w .ret (pre ++ [x]) (((W.setCell ⟨w.heap.size + 1,0,none⟩ (.int .i64 1)).setCell ⟨w.heap.size + 1,1,none⟩ (.int .i64 ((pre.length : Int) + 1))).setCell ⟨w.heap.size,0,none⟩ (.slice none 0 0)).drew):=by
 have s1:=fun (X : World) (hX : X.heap[w.heap.size + 1]? = some (.cells #[.int .i64 0,.int .i64 0] FltT (0,0))) => blk_set (blk_set hX 0 (.int .i64 1)) 1 (.int .i64 ((pre.length : Int) + 1))
 simp only [List.setIfInBounds_toArray,List.set_cons_zero,List.set_cons_succ] at s1
 refine ⟨⟨(((KeepsOthers.setCell _ _ _).trans (KeepsOthers.setCell _ _ _)).trans (KeepsOthers.setCell _ _ _)).trans (KeepsOthers.drew _),rfl,pre,x,rfl,h1,hx,?_,?_,?_,?_⟩,
  ⟨(((KeepsOthers.setCell _ _ _).trans (KeepsOthers.setCell _ _ _)).trans (KeepsOthers.setCell _ _ _)).trans (KeepsOthers.drew _),rfl,pre,x,rfl,h1,hx,?_,?_,?_,?_⟩⟩
 ·
  have:=blk_far (blk_far (h2.set (.slice none 0 0)) (p:=⟨w.heap.size + 1,0,none⟩) (by simp) (.int .i64 1)) (p:=⟨w.heap.size + 1,1,none⟩) (by simp) (.int .i64 ((pre.length : Int) + 1))
  exact this
 ·
  exact s1 _ (blk_far h3 (p:=⟨w.heap.size,0,none⟩) (by simp) _)
 ·
  exact below_drew (((h4.setCell (p:=⟨w.heap.size,0,none⟩) (Nat.le_refl _) _).setCell (p:=⟨w.heap.size + 1,0,none⟩) (by simp) _).setCell (p:=⟨w.heap.size + 1,1,none⟩) (by simp) _)
 ·
  simpa using h5
 ·
  have h6:=blk_far (blk_far h2 (p:=⟨w.heap.size + 1,0,none⟩) (by simp) (.int .i64 1)) (p:=⟨w.heap.size + 1,1,none⟩) (by simp) (.int .i64 ((pre.length : Int) + 1))
  exact Boxed.set (.slice none 0 0) h6
 ·
  exact blk_far (s1 _ h3) (p:=⟨w.heap.size,0,none⟩) (by simp) _
 ·
  exact below_drew (((h4.setCell (p:=⟨w.heap.size + 1,0,none⟩) (by simp) _).setCell (p:=⟨w.heap.size + 1,1,none⟩) (by simp) _).setCell (p:=⟨w.heap.size,0,none⟩) (Nat.le_refl _) _)
 ·
  simpa using h5
theorem lines_end (w W : World) (D : Nat) (e x : Int) (v : Value) (xs : List ByteArray) (hD : w.heap.size + 4 ≤ D) (hK : W.heap[D]? = some (.deferred (some []))) (h2 : Boxed W w.heap.size StrsT v)
  (h3 : W.heap[w.heap.size + 1]? = some (.cells #[.int .i64 e,.int .i64 x] FltT (0,0))) (h4 : Below w.heap.size w W) (hrow : W.ownsRow (w.heap.size + 4) 9 1 v xs.length (xs.map Value.string)) :
  ((W.putObj D (.deferred none)).cell? ⟨w.heap.size,0,none⟩ = some v ∧ (W.putObj D (.deferred none)).cell? ⟨w.heap.size + 1,0,none⟩ = some (.int .i64 e) ∧ (W.putObj D (.deferred none)).cell? ⟨w.heap.size + 1,1,none⟩ = some (.int .i64 x)) ∧
  Kd.R Kd.string 9 (W.putObj D (.deferred none)) w.heap.size (fun _ => True) v xs ∧ Below w.heap.size w (W.putObj D (.deferred none)):=by
 have hk : ∀ r,some D = some r → ∃ o : Obj,W.heap[r]? = some o ∧ o.isCells = false:=fun r e => by cases e;exact ⟨_,hK,rfl⟩
 have hc3:=blk_cell h3 0
 have hc4:=blk_cell h3 1
 simp only [List.getElem?_toArray,List.getElem?_cons_zero,List.getElem?_cons_succ] at hc3 hc4
 refine ⟨⟨cell_kept h2.cell (grownBy_putObj' _ D _) hk,cell_kept hc3 (grownBy_putObj' _ D _) hk,cell_kept hc4 (grownBy_putObj' _ D _) hk⟩,Kd.R_of_own ?_ (fun _ _ => trivial),?_⟩
 ·
  exact own_lower (ownsRow_putObj hrow _ hK rfl) (by omega)
 ·
  exact h4.trans (belowK_b (w:=w) (Nat.le_refl _) W D _ _ (by omega) hK rfl rfl)
theorem linesI_next (w W w1 : World) (pre : List (ByteArray × Bool)) (line : ByteArray) (v v' : Value) (o : Obj) (hlen : (0 : Nat) < w.heap.size) (h1 : ∀ y ∈ pre, goodS y = true) (hx : goodS (line, true) = true)
  (hv : Boxed W (w.heap.size + 1 + 1) StrsT v) (hrow : W.ownsRow (w.heap.size + 4) 9 1 v pre.length (pre.map fun x => Value.string x.1)) (h2 : Boxed W w.heap.size StrsT (.slice none 0 0))
  (h3 : W.heap[w.heap.size + 1]? = some (.cells #[.int .i64 0,.int .i64 0] FltT (0,0))) (h4 : Below w.heap.size w W) (h5 : w.heap.size + 4 ≤ W.heap.size)
  (hown : w1.ownsRow (w.heap.size + 4) 9 1 v' (pre.length + 1) ((pre.map fun x => Value.string x.1) ++ [.string line])) (hgrow : (W.alloc o).grownBy w1 v.ownBlock) :
  Boxed w1 (w.heap.size + 1 + 1) StrsT v ∧ KeepsOthers W (w1.setCell ⟨w.heap.size + 1 + 1,0,none⟩ v') ∧ SameBlk (fun i => i = w.heap.size + 1 + 1 + 1 ∨ i = 0) W (w1.setCell ⟨w.heap.size + 1 + 1,0,none⟩ v') ∧
   LinesI w (pre ++ [(line,true)]) (w1.setCell ⟨w.heap.size + 1 + 1,0,none⟩ v'):=by
 obtain ⟨a1,a2,a3,a4,a5⟩:=hv.appended (n₀:=w.heap.size) (by decide) (own_lower hrow (by omega : w.heap.size ≤ w.heap.size + 4)) (by omega) (by omega) (own_lower hown (by omega : w.heap.size ≤ w.heap.size + 4)) hgrow
 have hr4:=hown.kept (grownBy_setCell' w1 (w.heap.size + 1 + 1) v') (.inr (a1.not_row (by decide) hown).symm)
 have ho:=hrow.alloc o
 have hbase : ∀ k,v.ownBlock = some k → w.heap.size + 4 ≤ k:=fun k hk => (hrow.lt k hk).1
 refine ⟨a1,a4,?_,?_,⟨v',a2,by simpa using hr4⟩,?_,?_,h4.trans a5,?_⟩
 ·
  have go : ∀ i,i < w.heap.size + 4 → i ≠ w.heap.size + 1 + 1 → (w1.setCell ⟨w.heap.size + 1 + 1,0,none⟩ v').heap[i]? = W.heap[i]?:=fun i hi hne => by
   rw [Below.heap_setCell w1 ⟨w.heap.size + 1 + 1,0,none⟩ v' i hne]
   exact (hgrow.block i (by simp;omega) (fun e => by have:=hbase i e.symm;omega)).trans (Below.heap_alloc W o i (by omega))
  rintro i (rfl|rfl)
  ·
   exact go _ (by omega) (by omega)
  ·
   exact go _ (by omega) (by omega)
 ·
  intro y hy
  simp only [List.mem_append,List.mem_singleton] at hy
  rcases hy with hy|hy
  ·
   exact h1 y hy
  ·
   rw [hy];exact hx
 ·
  have:=(h2.alloc o).kept hgrow ((h2.alloc o).not_row (by decide) ho)
  exact blk_far this (p:=⟨w.heap.size + 1 + 1,0,none⟩) (by simp;omega) _
 ·
  have h3':=blk_grown h3 (World.grownBy_alloc W o none) (by simp)
  have:=blk_grown h3' hgrow (own_ne ho h3' (by decide))
  exact blk_far this (p:=⟨w.heap.size + 1 + 1,0,none⟩) (by simp) _
 ·
  have:=hgrow.size
  simp at this ⊢
  omega
def word_Lines.f (s : ByteArray) : Option (List ByteArray × Int × Int) := if s.size ≤ 9223372036854775807 then some ((linesL (bl s)).1.map lb, (linesL (bl s)).2) else none
theorem word_Lines.calls (a0 : ByteArray) (r1 : List ByteArray) (r2 r3 : Int) (w : World) (hGMaxL : MaxL w) (h : word_Lines.f a0 = some (r1, r2, r3)) :
  Calls Tryz.prog 31 #[.string a0] w fun e w' => ∃ v0_ : Value,e = .returned (.tuple #[v0_,.agg #[.int .i64 r2,.int .i64 r3]]) ∧ Kd.R Kd.string 9 w' w.heap.size (fun _ => True) v0_ r1 ∧ Below w.heap.size w w':=by
 refine (callsIn_wide (n:=9)).1 ?_
 unfold word_Lines.f at h
 split at h
 ·
  rename_i hs
  have h:=Option.some.inj h
  unfold linesL at h
  rw [bl_len] at h
  obtain ⟨i0,hi,hz0,hz1,hz2⟩:=info_parts lines_info
  by_cases hbig : a0.size > 65536
  ·
   rw [if_pos hbig] at h
   simp only [List.map_nil,Prod.mk.injEq] at h
   obtain ⟨rfl,rfl,rfl⟩:=h
   have hd : decide (65536 < a0.size) = true:=decide_eq_true hbig
   have hd2 : decide ((65536 : Int) < (a0.size : Int)) = true:=decide_eq_true (by omega)
   clear hbig
   refine callsIn_of_wp_marks Tryz.func31 rfl trivial ?_ rfl
   simp only [Tryz.ntmps31,List.size_toArray,List.length_cons,List.length_nil,Nat.reduceAdd,Nat.reduceSub,Array.replicate_succ,Array.replicate_zero,List.push_toArray,List.append_toArray,List.nil_append,List.cons_append]
   gi_wp2
   refine ⟨.tuple #[.slice none 0 0,.agg #[.int .i64 3,.int .i64 0]],by simp [results,Tryz.results31,go_sem],.slice none 0 0,rfl,Kd.R_nil _ _ _ _ _,below_alloc (below_alloc (Below.refl _ _) _) _⟩
  ·
   rw [if_neg hbig] at h
   have hd : decide (65536 < a0.size) = false:=decide_eq_false hbig
   have hd2 : decide ((65536 : Int) < (a0.size : Int)) = false:=decide_eq_false (by omega)
   have HRun : Aside0 (runS [] (segsF a0.size (bl a0)) = (r1,r2,r3)):=⟨by
    have e1:=congrArg Prod.fst h
    have e2:=congrArg Prod.snd h
    simp only at e1 e2
    rw [← e1,← e2]
    exact run_segs a0.size (bl a0) [] (by rw [bl_len];omega)⟩
   have hsz : a0.size ≤ 65536:=by omega
   clear h hbig hs
   refine callsIn_of_wp_marks Tryz.func31 rfl trivial ?_ rfl
   simp only [Tryz.ntmps31,List.size_toArray,List.length_cons,List.length_nil,Nat.reduceAdd,Nat.reduceSub,Array.replicate_succ,Array.replicate_zero,List.push_toArray,List.append_toArray,List.nil_append,List.cons_append]
   gi_wp2_with (refine ⟨trivial,?_⟩;refine (callsIn_wide.2 (word_each a0 _)).mono ?_;rintro e w' ⟨rfl,rfl⟩)
   have b0:=Boxed.new w StrsT (.slice none 0 0)
   have b1:=World.alloc_heap_new (w.alloc (.cells #[.slice none 0 0] StrsT)) (.cells #[.int .i64 0,.int .i64 0] FltT)
   have b2:=Boxed.new ((w.alloc (.cells #[.slice none 0 0] StrsT)).alloc (.cells #[.int .i64 0,.int .i64 0] FltT)) StrsT (.slice none 0 0)
   have b3:=Boxed.new (((w.alloc (.cells #[.slice none 0 0] StrsT)).alloc (.cells #[.int .i64 0,.int .i64 0] FltT)).alloc (.cells #[.slice none 0 0] StrsT)) 9 (.string a0)
   rw [World.size_alloc] at b1
   rw [World.size_alloc,World.size_alloc] at b2
   rw [World.size_alloc,World.size_alloc,World.size_alloc] at b3
   obtain ⟨W0,hW0⟩ : ∃ W0,(((w.alloc (.cells #[.slice none 0 0] StrsT)).alloc (.cells #[.int .i64 0,.int .i64 0] FltT)).alloc (.cells #[.slice none 0 0] StrsT)).alloc (.cells #[.string a0] 9) = W0:=⟨_,rfl⟩
   have hB0 : Below w.heap.size w W0:=hW0 ▸ below_alloc (below_alloc (below_alloc (below_alloc (Below.refl _ _) _) _) _) _
   have hz : W0.heap.size = w.heap.size + 4:=by rw [← hW0];simp
   have hm0 : MaxL W0:=max_below hGMaxL hB0
   have hI0 : LinesI w [] W0:=⟨by simp,⟨.slice none 0 0,hW0 ▸ b2.alloc _,World.ownsRow_nil _ _ _ _⟩,hW0 ▸ ((b0.alloc _).alloc _).alloc _,hW0 ▸ (Boxed_alloc2 b1),hB0,by omega⟩
   have hb3 : Boxed W0 (w.heap.size + 1 + 1 + 1) 9 (.string a0):=hW0 ▸ b3
   have hlen : (0 : Nat) < w.heap.size:=by
    obtain ⟨m,hm⟩:=hGMaxL
    exact World.block_lt_of_cell? w _ hm
   rw [hW0]
   clear b0 b1 b2 b3 hW0
   refine range_box rfl (by decide) (gf:=86) (lb:=#[.pointer (some ⟨w.heap.size + 1 + 1 + 1,0,none⟩)]) rfl trivial (enters_of Tryz.func86 (by kernel_rfl) rfl) (fun _ => rfl) (b:=w.heap.size + 1 + 1 + 1) (by omega)
    (by rintro i (rfl|rfl) <;> omega) (each_seq 8 a0 (w.heap.size + 1 + 1 + 1) (by omega)) (fun W hW => ⟨(hW.block _ (by omega)).trans hb3,max_below hm0 hW⟩)
    (LinesI w) (LinesX w) (hz ▸ linesI_holds w) (fun c => hz ▸ linesX_holds w c) hI0
    (fun x => { tmps:=#[.string a0,undef,.pointer (some ⟨w.heap.size,0,none⟩),.pointer (some ⟨w.heap.size + 1,0,none⟩),.pointer (some ⟨w.heap.size + 1 + 1,0,none⟩),.string x.1,.bool x.2,.string a0,.int .i64 a0.size,.bool false,undef,.string a0,.func (.func 86) #[] #[.pointer (some ⟨w.heap.size + 1 + 1 + 1,0,none⟩)],.string x.1,.bool x.2,undef,undef,undef,undef,undef,undef,undef,undef,undef,undef,undef,undef,undef,undef,undef,undef,undef],defers:=[] }) ?assign ?body ?done ?stop
   case assign =>
    intro l x W K hK
    gi_wp2
    exact hK
   case body =>
    rintro l pre ⟨line,ended⟩ W hI hN
    have HI:=aq hI
    obtain ⟨h1,⟨v,hv,hrow⟩,h2,h3,h4,h5⟩:=hI
    obtain ⟨A,cp,rfl⟩:=own_slice hrow
    have hc:=hv.cell
    have hfr:=hv.frozen
    have hc2:=h2.cell
    have hf2:=h2.frozen
    have hc3:=blk_cell h3 0
    have hc4:=blk_cell h3 1
    have hf3:=blk_frozen h3 0
    have hf4:=blk_frozen h3 1
    simp only [List.getElem?_toArray,List.getElem?_cons_zero,List.getElem?_cons_succ] at hc3 hc4
    cases ended with
    | false =>
     gi_wp2
     have hboth:=linesX_both w W pre (line,false) h1 rfl h2 h3 h4 h5
     obtain ⟨hXA,hXB⟩:=hboth
     have HXA:=aq hXA
     have HXB:=aq hXB
     have hw:=IntWalk.i64_in ((pre.length : Int) + 1) (by omega)
     clear hXA hXB h1 h2 h3 hv hrow
     refine ⟨trivial,?_⟩
     gi_wp2
     gi_region
     all_goals gi_wp2
     all_goals first|exact HXA.out|exact HXB.out
    | true =>
     clear hc hfr hc2 hf2 hf3 hf4 hc3 hc4 h1 h2 h3 h4 h5 hv hrow
     obtain ⟨bb,hbb⟩ : ∃ bb,bb = (bl line).all seen:=⟨_,rfl⟩
     have HP:=aq (word_plain.calls line bb W (by unfold word_plain.f;rw [hbb]))
     have HBB:=aq hbb
     clear hbb
     gi_wp2_with fail
     refine ⟨trivial,?_⟩
     refine (CallsIn.inRound l (callsIn_wide.2 HP.out)).mono ?_
     rintro e W1 ⟨rfl,hb⟩
     have hI1:=linesI_holds w pre W W1 none HI.out (grown_of_below hb none) (fun r e => by cases e)
     have hK1:=KeepsOthers.of_grownBy (grown_of_below hb none) (fun j o e => by cases e)
     have hS1 : SameBlk (fun i => i = w.heap.size + 1 + 1 + 1 ∨ i = 0) W W1:=by
      have:=HI.out.2.2.2.2.2
      rintro i (rfl|rfl)
      ·
       exact hb.block _ (by omega)
      ·
       exact hb.block _ (by omega)
     have HK1:=aq hK1
     have HS1:=aq hS1
     clear HI HP hb hK1 hS1
     obtain ⟨h1,⟨v,hv,hrow⟩,h2,h3,h4,h5⟩:=hI1
     obtain ⟨A,cp,rfl⟩:=own_slice hrow
     have hc:=hv.cell
     have hfr:=hv.frozen
     have hc2:=h2.cell
     have hf2:=h2.frozen
     have hc3:=blk_cell h3 0
     have hc4:=blk_cell h3 1
     have hf3:=blk_frozen h3 0
     have hf4:=blk_frozen h3 1
     simp only [List.getElem?_toArray,List.getElem?_cons_zero,List.getElem?_cons_succ] at hc3 hc4
     cases bb with
     | false =>
      have hboth:=linesX_both w W1 pre (line,true) h1 (by unfold goodS;rw [← HBB.out];rfl) h2 h3 h4 h5
      obtain ⟨⟨hXA1,hXA2⟩,⟨hXB1,hXB2⟩⟩:=hboth
      have HXA:=aq (And.intro (HK1.out.trans hXA1) hXA2)
      have HXB:=aq (And.intro (HK1.out.trans hXB1) hXB2)
      have hw:=IntWalk.i64_in ((pre.length : Int) + 1) (by omega)
      clear hXA1 hXB1 hXA2 hXB2 h1 h2 h3 hv hrow
      gi_wp2
      gi_region
      all_goals gi_wp2
      all_goals first|exact HXA.out|exact HXB.out
     | true =>
      have hgd : goodS (line,true) = true:=by unfold goodS;rw [← HBB.out];rfl
      have HN:=aq (fun w1 v' o => linesI_next w W1 w1 pre line _ v' o hlen h1 hgd hv hrow h2 h3 h4 h5)
      have HR:=aq hrow
      have hlen1 : pre.length ≤ 65537:=by omega
      clear hc2 hf2 hc3 hc4 hf3 hf4 h1 h2 h3 h4 hv hrow hgd hfr
      gi_wp2_with (gi_at_builtin;refine wpListIn_append_own _ rfl _ _ StrsT rfl (w.heap.size + 4) 9 i0 (.string ⟨#[]⟩) 1 16 Tryz.underlying45 hi hz0 hz1 hz2 rfl (by decide) _ _ _ rfl (HR.out.alloc _) ⟨W1.heap.size,0,none⟩ 1 1 [.string line] rfl rfl (cell_one_new _ _ _) (by simp [Value.oneCell']) (by unfold maxLen;omega) (by omega) (by simp;omega) ?_;intro v' w1 hown' hgrow _;obtain ⟨g',cap',rfl⟩:=ownsRow_succ hown';obtain ⟨hv1,hk2,hs2,hi2⟩:=HN.out w1 _ _ hown' hgrow;have hc1:=hv1.cell;have hf1:=hv1.frozen;have HF:=aq (And.intro (HK1.out.trans hk2) (And.intro (fun i hi => (hs2 i hi).trans (HS1.out i hi)) hi2));clear hk2 hs2 hi2 hown' hgrow hv1)
      exact HF.out
   case done =>
    rintro D xs W hD rfl ⟨h1,⟨v,hv,hrow⟩,h2,h3,h4,h5⟩ hK
    have hr:=HRun.out
    rw [run_good _ [] h1] at hr
    simp only [List.nil_append,Prod.mk.injEq] at hr
    obtain ⟨rfl,rfl,rfl⟩:=hr
    obtain ⟨A,cp,rfl⟩:=own_slice hrow
    have hc:=hv.cell
    have hc2:=h2.cell
    have hf2:=h2.frozen
    have hc3:=blk_cell h3 0
    have hc4:=blk_cell h3 1
    have hf3:=blk_frozen h3 0
    have hf4:=blk_frozen h3 1
    simp only [List.getElem?_toArray,List.getElem?_cons_zero,List.getElem?_cons_succ] at hc3 hc4
    have HE:=aq (lines_end w (((W.setCell ⟨w.heap.size,0,none⟩ (.slice A (segsF a0.size (bl a0)).length cp)).setCell ⟨w.heap.size + 1,0,none⟩ (.int .i64 0)).setCell ⟨w.heap.size + 1,1,none⟩ (.int .i64 0)) D 0 0 (.slice A (segsF a0.size (bl a0)).length cp) ((segsF a0.size (bl a0)).map (·.1)) (by omega)
     ((((KeepsOthers.setCell _ _ _).trans (KeepsOthers.setCell _ _ _)).trans (KeepsOthers.setCell _ _ _)).same D _ hK rfl)
     (blk_far (blk_far (h2.set _) (p:=⟨w.heap.size + 1,0,none⟩) (by simp) _) (p:=⟨w.heap.size + 1,1,none⟩) (by simp) _)
     (by
      have:=blk_set (blk_set (blk_far h3 (p:=⟨w.heap.size,0,none⟩) (by simp) (.slice A (segsF a0.size (bl a0)).length cp)) 0 (.int .i64 0)) 1 (.int .i64 0)
      simpa only [List.setIfInBounds_toArray,List.set_cons_zero,List.set_cons_succ] using this)
     (((h4.setCell (p:=⟨w.heap.size,0,none⟩) (Nat.le_refl _) _).setCell (p:=⟨w.heap.size + 1,0,none⟩) (by simp) _).setCell (p:=⟨w.heap.size + 1,1,none⟩) (by simp) _)
     (by
      have n1:=h2.not_row (by decide) hrow
      have n2:=own_ne hrow h3 (by decide)
      have:=own_setCell (own_setCell (own_setCell hrow (p:=⟨w.heap.size,0,none⟩) n1 (.slice A (segsF a0.size (bl a0)).length cp)) (p:=⟨w.heap.size + 1,0,none⟩) n2 (.int .i64 0)) (p:=⟨w.heap.size + 1,1,none⟩) n2 (.int .i64 0)
      rw [List.length_map,List.map_map]
      exact this))
    have HK2:=aq ((((KeepsOthers.setCell W ⟨w.heap.size,0,none⟩ (.slice A (segsF a0.size (bl a0)).length cp)).trans (KeepsOthers.setCell _ ⟨w.heap.size + 1,0,none⟩ (.int .i64 0))).trans (KeepsOthers.setCell _ ⟨w.heap.size + 1,1,none⟩ (.int .i64 0))).same D _ hK rfl)
    clear h1 h2 h3 h4 h5 hv hrow
    gi_wp2
    refine ⟨by simp,.inl ⟨_,_,rfl,run_takeDeferred HK2.out,?_⟩⟩
    obtain ⟨⟨q0,q1,q2⟩,q3,q4⟩:=HE.out
    refine ⟨.tuple #[.slice A (segsF a0.size (bl a0)).length cp,.agg #[.int .i64 0,.int .i64 0]],?_,_,rfl,q3,q4⟩
    simp [results,Tryz.results31,go_sem,q0,q1,q2]
   case stop =>
    rintro D c pre W hD ⟨rest,hSp⟩ ⟨rfl,q,x,h0,h1,hx,h2,h3,h4,h5⟩ hK
    have hr:=HRun.out
    rw [← hSp,h0,List.append_assoc,List.singleton_append,run_bad q x rest [] h1 hx] at hr
    simp only [List.length_nil,Prod.mk.injEq] at hr
    obtain ⟨rfl,rfl,rfl⟩:=hr
    obtain ⟨⟨q0,q1,q2⟩,q3,q4⟩:=lines_end w W D 1 ((q.length : Int) + 1) (.slice none 0 0) [] (by omega) hK h2 h3 h4 (World.ownsRow_nil _ _ _ _)
    gi_wp2
    refine ⟨by simp,.inl ⟨_,_,rfl,run_takeDeferred hK,?_⟩⟩
    refine ⟨.tuple #[.slice none 0 0,.agg #[.int .i64 1,.int .i64 ((q.length : Int) + 1)]],?_,_,by simp,q3,q4⟩
    simp [results,Tryz.results31,go_sem,q0,q1,q2]
 ·
  cases h
end Go.Proofs.YtaokkkolbifdpaaGreatDoor.Hand
end

section
namespace Go.Proofs.YtaokkkolbifdpaaGreatDoor.Hand
open Go.RowKit Go.Proofs.YtaokkkolbifdpaaGreatDoorW
open PrintWords PrintLast PrintMore
def idxI {α : Type} (p : α → Bool) (xs : List α) : Int := if xs.findIdx p < xs.length then (xs.findIdx p : Int) else -1
theorem idxI_at {α : Type} {p : α → Bool} {xs : List α} {i : Nat} (hi : i < xs.length) (h : p xs[i] = true) (hb : ∀ (j : Nat) (hj : j < xs.length), j < i → p xs[j] = false) : idxI p xs = (i : Int) := by
 have e : xs.findIdx p = i:=(List.findIdx_eq hi).2 ⟨h,fun j hj => hb j (by omega) hj⟩
 unfold idxI
 rw [e,if_pos hi]
theorem idxI_no {α : Type} {p : α → Bool} {xs : List α} (h : ∀ x ∈ xs, p x = false) : idxI p xs = -1 := by
 have e : xs.findIdx p = xs.length:=List.findIdx_eq_length.2 h
 unfold idxI
 rw [e,if_neg (by omega)]
theorem idxI_any {α : Type} (p : α → Bool) (xs : List α) : decide (idxI p xs ≥ 0) = xs.any p := by
 unfold idxI
 by_cases h : xs.findIdx p < xs.length
 ·
  rw [if_pos h,decide_eq_true (by omega)]
  exact (List.any_eq_true.2 ⟨xs[xs.findIdx p],List.getElem_mem h,List.findIdx_getElem⟩).symm
 ·
  rw [if_neg h,decide_eq_false (by omega)]
  refine (List.any_eq_false.2 fun x hx => ?_).symm
  rw [List.findIdx_eq_length.1 (Nat.le_antisymm List.findIdx_le_length (Nat.le_of_not_lt h)) x hx]
  decide
theorem index_pair (g : Nat) (eg : ∀ args w, (callFunc g args).run Tryz.prog w = .ok (.enter g args) w) (u : Value) (p : S23 → Bool) (A : Option Addr) (c : Nat) (xs : List S23) (w : World) (hC : Kd.C k23 w A xs.length xs) (hc : xs.length ≤ c)
  (hp : ∀ (x : S23) (W : World),x ∈ xs → Below w.heap.size w W → Calls Tryz.prog g #[.agg #[.string x.f0,.string x.f1],u] W fun e w' => e = .returned (.bool (p x)) ∧ Below W.heap.size W w') :
  Calls Tryz.prog 96 #[.slice A xs.length c,.func (.func g) #[] #[u]] w fun e w' => e = .returned (.int .i64 (idxI p xs)) ∧ Below w.heap.size w w':=by
 have HC:=aq hC
 have HP:=aq hp
 have hmx:=hC.2.1
 clear hC hp
 go_enter Tryz.func96,Tryz.ntmps96
 go_wp2
 go_loopg [8] xs.length (fun kq v8 wr => ∃ i : Nat,v8 = .int .i64 (i : Int) ∧ i + kq = xs.length ∧ Aside0 (∀ j (hj : j < xs.length),j < i → p xs[j] = false) ∧ Aside0 (Below w.heap.size w wr))
 case atStart => exact ⟨0,rfl,by omega,⟨fun j _ h => absurd h (Nat.not_lt_zero j)⟩,⟨Below.refl _ _⟩⟩
 case round =>
  obtain ⟨i,rfl,hi,HA,HB⟩:=hrel
  by_cases hlt : i < xs.length
  ·
   have HPX:=aq (HP.out xs[i] wr (List.getElem_mem hlt) HB.out)
   obtain ⟨ad,hA,h0,h1⟩:=at_T23 (Kd.C_below HC.out HB.out) (i : Int) (by omega) (by omega)
   have hx : rd_T23 xs (i : Int) = xs[i]:=by
    unfold rd_T23
    rw [Int.toNat_natCast,List.getD_eq_getElem?_getD,List.getElem?_eq_getElem hlt]
    rfl
   rw [hx,Int.toNat_natCast] at h0 h1
   obtain ⟨x,hxe⟩ : ∃ x,xs[i] = x:=⟨_,rfl⟩
   rw [hxe] at h0 h1 HPX
   have HXE:=aq hxe
   subst hA
   have hd : decide ((i : Int) < (xs.length : Int)) = true:=decide_eq_true (by omega)
   clear hx hxe
   cases hbd : p x with
   | true =>
    have HBD:=aq (show p xs[i] = true from by rw [HXE.out];exact hbd)
    rw [hbd] at HPX
    clear hbd
    go_wp2_with fail
    refine HPX.out.mono ?_
    rintro e w1 ⟨rfl,hb⟩
    have HB1:=aq (HB.out.trans (hb.mono HB.out.size))
    clear hb
    go_wp2_with fail
    refine bodyPost_ret (results_tmp rfl _ _ _) rfl ⟨?_,HB1.out⟩
    rw [idxI_at hlt HBD.out HA.out]
    rfl
   | false =>
    have HBF:=aq hbd
    rw [hbd] at HPX
    clear hbd
    go_wp2_with fail
    refine HPX.out.mono ?_
    rintro e w1 ⟨rfl,hb⟩
    have HB1:=aq (HB.out.trans (hb.mono HB.out.size))
    clear hb
    go_wp2_with fail
    go_roundg (gk - 1)
    case measure => omega
    case rel =>
     refine ⟨i + 1,by simp,by omega,⟨fun j hj hji => ?_⟩,HB1⟩
     by_cases e : j = i
     ·
      subst e
      rw [HXE.out]
      exact HBF.out
     ·
      exact HA.out j hj (by omega)
  ·
   have hd : decide ((i : Int) < (xs.length : Int)) = false:=decide_eq_false (by omega)
   have HF : Aside0 (idxI p xs = -1):=⟨idxI_no fun x hx => by
    obtain ⟨j,hj,rfl⟩:=List.mem_iff_getElem.1 hx
    exact HA.out j hj (by omega)⟩
   go_wp2
   go_ret
   exact ⟨by rw [HF.out];rfl,HB.out⟩
theorem contains_pair (g : Nat) (eg : ∀ args w, (callFunc g args).run Tryz.prog w = .ok (.enter g args) w) (u : Value) (p : S23 → Bool) (A : Option Addr) (c : Nat) (xs : List S23) (w : World) (hC : Kd.C k23 w A xs.length xs) (hc : xs.length ≤ c)
  (hp : ∀ (x : S23) (W : World),x ∈ xs → Below w.heap.size w W → Calls Tryz.prog g #[.agg #[.string x.f0,.string x.f1],u] W fun e w' => e = .returned (.bool (p x)) ∧ Below W.heap.size W w') :
  Calls Tryz.prog 69 #[.slice A xs.length c,.func (.func g) #[] #[u]] w fun e w' => e = .returned (.bool (xs.any p)) ∧ Below w.heap.size w w':=by
 have HI:=aq (index_pair g eg u p A c xs w hC hc hp)
 have HN : Aside0 (decide (idxI p xs ≥ 0) = xs.any p):=⟨idxI_any p xs⟩
 clear hC hp eg
 go_enter Tryz.func69,Tryz.ntmps69
 go_wp2_with fail
 refine HI.out.mono ?_
 rintro e w1 ⟨rfl,hb⟩
 have HB1:=aq hb
 clear hb
 go_wp2_with fail
 refine bodyPost_ret (results_tmp rfl _ _ _) rfl ⟨?_,HB1.out⟩
 rw [← HN.out]
 rfl
theorem index_str (g : Nat) (eg : ∀ args w, (callFunc g args).run Tryz.prog w = .ok (.enter g args) w) (u : Value) (p : ByteArray → Bool) (A : Option Addr) (c : Nat) (xs : List ByteArray) (w : World) (hC : Kd.C Kd.string w A xs.length xs) (hc : xs.length ≤ c)
  (hp : ∀ (x : ByteArray) (W : World),x ∈ xs → Below w.heap.size w W → Calls Tryz.prog g #[.string x,u] W fun e w' => e = .returned (.bool (p x)) ∧ Below W.heap.size W w') :
  Calls Tryz.prog 104 #[.slice A xs.length c,.func (.func g) #[] #[u]] w fun e w' => e = .returned (.int .i64 (idxI p xs)) ∧ Below w.heap.size w w':=by
 have HC:=aq hC
 have HP:=aq hp
 have hmx:=hC.2.1
 clear hC hp
 go_enter Tryz.func104,Tryz.ntmps104
 go_wp2
 go_loopg [8] xs.length (fun kq v8 wr => ∃ i : Nat,v8 = .int .i64 (i : Int) ∧ i + kq = xs.length ∧ Aside0 (∀ j (hj : j < xs.length),j < i → p xs[j] = false) ∧ Aside0 (Below w.heap.size w wr))
 case atStart => exact ⟨0,rfl,by omega,⟨fun j _ h => absurd h (Nat.not_lt_zero j)⟩,⟨Below.refl _ _⟩⟩
 case round =>
  obtain ⟨i,rfl,hi,HA,HB⟩:=hrel
  by_cases hlt : i < xs.length
  ·
   have HPX:=aq (HP.out xs[i] wr (List.getElem_mem hlt) HB.out)
   obtain ⟨ad,hA,h0⟩:=Kd.at_string (Kd.C_below HC.out HB.out) (i : Int) (by omega) (by omega)
   have hx : rdOf ByteArray.empty xs (i : Int) = xs[i]:=by
    unfold rdOf
    rw [Int.toNat_natCast,List.getD_eq_getElem?_getD,List.getElem?_eq_getElem hlt]
    rfl
   rw [hx,Int.toNat_natCast] at h0
   obtain ⟨x,hxe⟩ : ∃ x,xs[i] = x:=⟨_,rfl⟩
   rw [hxe] at h0 HPX
   have HXE:=aq hxe
   subst hA
   have hd : decide ((i : Int) < (xs.length : Int)) = true:=decide_eq_true (by omega)
   clear hx hxe
   cases hbd : p x with
   | true =>
    have HBD:=aq (show p xs[i] = true from by rw [HXE.out];exact hbd)
    rw [hbd] at HPX
    clear hbd
    go_wp2_with fail
    refine HPX.out.mono ?_
    rintro e w1 ⟨rfl,hb⟩
    have HB1:=aq (HB.out.trans (hb.mono HB.out.size))
    clear hb
    go_wp2_with fail
    refine bodyPost_ret (results_tmp rfl _ _ _) rfl ⟨?_,HB1.out⟩
    rw [idxI_at hlt HBD.out HA.out]
    rfl
   | false =>
    have HBF:=aq hbd
    rw [hbd] at HPX
    clear hbd
    go_wp2_with fail
    refine HPX.out.mono ?_
    rintro e w1 ⟨rfl,hb⟩
    have HB1:=aq (HB.out.trans (hb.mono HB.out.size))
    clear hb
    go_wp2_with fail
    go_roundg (gk - 1)
    case measure => omega
    case rel =>
     refine ⟨i + 1,by simp,by omega,⟨fun j hj hji => ?_⟩,HB1⟩
     by_cases e : j = i
     ·
      subst e
      rw [HXE.out]
      exact HBF.out
     ·
      exact HA.out j hj (by omega)
  ·
   have hd : decide ((i : Int) < (xs.length : Int)) = false:=decide_eq_false (by omega)
   have HF : Aside0 (idxI p xs = -1):=⟨idxI_no fun x hx => by
    obtain ⟨j,hj,rfl⟩:=List.mem_iff_getElem.1 hx
    exact HA.out j hj (by omega)⟩
   go_wp2
   go_ret
   exact ⟨by rw [HF.out];rfl,HB.out⟩
theorem contains_str (g : Nat) (eg : ∀ args w, (callFunc g args).run Tryz.prog w = .ok (.enter g args) w) (u : Value) (p : ByteArray → Bool) (A : Option Addr) (c : Nat) (xs : List ByteArray) (w : World) (hC : Kd.C Kd.string w A xs.length xs) (hc : xs.length ≤ c)
  (hp : ∀ (x : ByteArray) (W : World),x ∈ xs → Below w.heap.size w W → Calls Tryz.prog g #[.string x,u] W fun e w' => e = .returned (.bool (p x)) ∧ Below W.heap.size W w') :
  Calls Tryz.prog 77 #[.slice A xs.length c,.func (.func g) #[] #[u]] w fun e w' => e = .returned (.bool (xs.any p)) ∧ Below w.heap.size w w':=by
 have HI:=aq (index_str g eg u p A c xs w hC hc hp)
 have HN : Aside0 (decide (idxI p xs ≥ 0) = xs.any p):=⟨idxI_any p xs⟩
 clear hC hp eg
 go_enter Tryz.func77,Tryz.ntmps77
 go_wp2_with fail
 refine HI.out.mono ?_
 rintro e w1 ⟨rfl,hb⟩
 have HB1:=aq hb
 clear hb
 go_wp2_with fail
 refine bodyPost_ret (results_tmp rfl _ _ _) rfl ⟨?_,HB1.out⟩
 rw [← HN.out]
 rfl
theorem each_no (g : Nat) (eg : ∀ args w, (callFunc g args).run Tryz.prog w = .ok (.enter g args) w) (u : Value) (f : S23 → ByteArray) (A : Option Addr) (c : Nat) (xs : List S23) (w : World) (hC : Kd.C k23 w A xs.length xs) (hc : xs.length ≤ c) (hl : xs.length ≤ 1048576)
  (hf : ∀ (x : S23) (W : World),x ∈ xs → Below w.heap.size w W → Calls Tryz.prog g #[.agg #[.string x.f0,.string x.f1]] W fun e w' => e = .returned (.string (f x)) ∧ Below W.heap.size W w') :
  Calls Tryz.prog 45 #[.slice A xs.length c,.func (.func g) #[] #[]] w fun e w' => ∃ v,e = .returned v ∧ Kd.R Kd.string 9 w' w.heap.size (fun _ => True) v (xs.map f) ∧ Below w.heap.size w w':=by
 have HC:=aq hC
 have HF:=aq hf
 clear hC hf
 go_enter Tryz.func45,Tryz.ntmps45
 go_wp2
 go_loopg [5,10] xs.length (fun kq v5 v10 wr => ∃ i : Nat,v10 = .int .i64 (i : Int) ∧ i + kq = xs.length ∧ Aside0 (Kd.R Kd.string 9 wr w.heap.size (fun _ => True) v5 ((xs.take i).map f)) ∧ Aside0 (Below w.heap.size w wr))
 case atStart => exact ⟨0,rfl,by omega,⟨Kd.R_nil _ _ _ _ _⟩,⟨Below.refl _ _⟩⟩
 case round =>
  obtain ⟨i,rfl,hi,HO,HB⟩:=hrel
  by_cases hlt : i < xs.length
  ·
   obtain ⟨ad,hA,h0,h1⟩:=at_T23 (Kd.C_below HC.out HB.out) (i : Int) (by omega) (by omega)
   have hx : rd_T23 xs (i : Int) = xs[i]:=by
    unfold rd_T23
    rw [Int.toNat_natCast,List.getD_eq_getElem?_getD,List.getElem?_eq_getElem hlt]
    rfl
   rw [hx,Int.toNat_natCast] at h0 h1
   have HMem:=aq (List.getElem_mem hlt)
   have HTk : Aside0 ((xs.take (i + 1)).map f = (xs.take i).map f ++ [f xs[i]]):=⟨by rw [List.take_succ_eq_append_getElem hlt,List.map_append];rfl⟩
   obtain ⟨x,hxe⟩ : ∃ x,xs[i] = x:=⟨_,rfl⟩
   rw [hxe] at h0 h1 HMem HTk
   subst hA
   have HFX:=aq (HF.out x (wr.alloc (Obj.cells #[.string x.f0,.string x.f1] 23)) HMem.out (below_alloc HB.out _))
   have HTl : Aside0 (((xs.take i).map f).length ≤ 1048576):=⟨by rw [List.length_map,List.length_take];omega⟩
   have hd : decide ((i : Int) < (xs.length : Int)) = true:=decide_eq_true (by omega)
   clear hx hxe
   go_wp2_with fail
   refine HFX.out.mono ?_
   rintro e w1 ⟨rfl,hb⟩
   have hbw:=below_step (below_alloc (Below.refl wr.heap.size wr) (Obj.cells #[.string x.f0,.string x.f1] 23)) hb
   have hO1:=Kd.R_below HO.out hbw
   have hB1:=HB.out.trans (hbw.mono HB.out.size)
   have hS1:=hB1.size
   clear hb hbw
   go_wp2_with (at_builtin;refine Kd.R_append Kd.string (w0:=w1) w.heap.size rfl (.tmp 14) (.tmp 18) 45 9 (.string ⟨#[]⟩) 16 rfl Tryz.underlying45 lines_info rfl (by decide) (by omega) u5 ((xs.take i).map f) (f x) [.string (f x)] (fun _ => True) (fun _ => False) rfl rfl ?aP (fun _ hk => hk.elim) ?aF ?aO ?aB ?aS ?aL ?_;(case aP => exact rfl);(case aB => exact Below.refl _ _);(case aF => exact (fun _ _ => trivial));(case aO => exact hO1);(case aS => exact hS1);(case aL => (have h1_:=HTl.out;omega));intro v9 w8 hR8 hB8 hg8 hat8)
   rw [← HTk.out] at hR8
   have HR8:=aq hR8
   have HB8:=aq (hB1.trans hB8)
   clear hR8 hB8 hg8 hat8 hO1 hB1 hS1
   go_wp2
   go_roundg (gk - 1)
   case measure => omega
   case rel => exact ⟨i + 1,by simp,by omega,HR8,HB8⟩
  ·
   have hd : decide ((i : Int) < (xs.length : Int)) = false:=decide_eq_false (by omega)
   have HOe : Aside0 (Kd.R Kd.string 9 wr w.heap.size (fun _ => True) u5 (xs.map f)):=⟨by have:=HO.out;rw [List.take_of_length_le (by omega)] at this;exact this⟩
   go_wp2
   refine bodyPost_ret (results_tmp rfl _ _ _) rfl ⟨u5,rfl,HOe.out,HB.out⟩
theorem each_one (g : Nat) (eg : ∀ args w, (callFunc g args).run Tryz.prog w = .ok (.enter g args) w) (u : Value) (f : S23 → ByteArray) (A : Option Addr) (c : Nat) (xs : List S23) (w : World) (hC : Kd.C k23 w A xs.length xs) (hc : xs.length ≤ c) (hl : xs.length ≤ 1048576)
  (hf : ∀ (x : S23) (W : World),x ∈ xs → Below w.heap.size w W → Calls Tryz.prog g #[.agg #[.string x.f0,.string x.f1],u] W fun e w' => e = .returned (.string (f x)) ∧ Below W.heap.size W w') :
  Calls Tryz.prog 45 #[.slice A xs.length c,.func (.func g) #[] #[u]] w fun e w' => ∃ v,e = .returned v ∧ Kd.R Kd.string 9 w' w.heap.size (fun _ => True) v (xs.map f) ∧ Below w.heap.size w w':=by
 have HC:=aq hC
 have HF:=aq hf
 clear hC hf
 go_enter Tryz.func45,Tryz.ntmps45
 go_wp2
 go_loopg [5,10] xs.length (fun kq v5 v10 wr => ∃ i : Nat,v10 = .int .i64 (i : Int) ∧ i + kq = xs.length ∧ Aside0 (Kd.R Kd.string 9 wr w.heap.size (fun _ => True) v5 ((xs.take i).map f)) ∧ Aside0 (Below w.heap.size w wr))
 case atStart => exact ⟨0,rfl,by omega,⟨Kd.R_nil _ _ _ _ _⟩,⟨Below.refl _ _⟩⟩
 case round =>
  obtain ⟨i,rfl,hi,HO,HB⟩:=hrel
  by_cases hlt : i < xs.length
  ·
   obtain ⟨ad,hA,h0,h1⟩:=at_T23 (Kd.C_below HC.out HB.out) (i : Int) (by omega) (by omega)
   have hx : rd_T23 xs (i : Int) = xs[i]:=by
    unfold rd_T23
    rw [Int.toNat_natCast,List.getD_eq_getElem?_getD,List.getElem?_eq_getElem hlt]
    rfl
   rw [hx,Int.toNat_natCast] at h0 h1
   have HMem:=aq (List.getElem_mem hlt)
   have HTk : Aside0 ((xs.take (i + 1)).map f = (xs.take i).map f ++ [f xs[i]]):=⟨by rw [List.take_succ_eq_append_getElem hlt,List.map_append];rfl⟩
   obtain ⟨x,hxe⟩ : ∃ x,xs[i] = x:=⟨_,rfl⟩
   rw [hxe] at h0 h1 HMem HTk
   subst hA
   have HFX:=aq (HF.out x (wr.alloc (Obj.cells #[.string x.f0,.string x.f1] 23)) HMem.out (below_alloc HB.out _))
   have HTl : Aside0 (((xs.take i).map f).length ≤ 1048576):=⟨by rw [List.length_map,List.length_take];omega⟩
   have hd : decide ((i : Int) < (xs.length : Int)) = true:=decide_eq_true (by omega)
   clear hx hxe
   go_wp2_with fail
   refine HFX.out.mono ?_
   rintro e w1 ⟨rfl,hb⟩
   have hbw:=below_step (below_alloc (Below.refl wr.heap.size wr) (Obj.cells #[.string x.f0,.string x.f1] 23)) hb
   have hO1:=Kd.R_below HO.out hbw
   have hB1:=HB.out.trans (hbw.mono HB.out.size)
   have hS1:=hB1.size
   clear hb hbw
   go_wp2_with (at_builtin;refine Kd.R_append Kd.string (w0:=w1) w.heap.size rfl (.tmp 14) (.tmp 18) 45 9 (.string ⟨#[]⟩) 16 rfl Tryz.underlying45 lines_info rfl (by decide) (by omega) u5 ((xs.take i).map f) (f x) [.string (f x)] (fun _ => True) (fun _ => False) rfl rfl ?aP (fun _ hk => hk.elim) ?aF ?aO ?aB ?aS ?aL ?_;(case aP => exact rfl);(case aB => exact Below.refl _ _);(case aF => exact (fun _ _ => trivial));(case aO => exact hO1);(case aS => exact hS1);(case aL => (have h1_:=HTl.out;omega));intro v9 w8 hR8 hB8 hg8 hat8)
   rw [← HTk.out] at hR8
   have HR8:=aq hR8
   have HB8:=aq (hB1.trans hB8)
   clear hR8 hB8 hg8 hat8 hO1 hB1 hS1
   go_wp2
   go_roundg (gk - 1)
   case measure => omega
   case rel => exact ⟨i + 1,by simp,by omega,HR8,HB8⟩
  ·
   have hd : decide ((i : Int) < (xs.length : Int)) = false:=decide_eq_false (by omega)
   have HOe : Aside0 (Kd.R Kd.string 9 wr w.heap.size (fun _ => True) u5 (xs.map f)):=⟨by have:=HO.out;rw [List.take_of_length_le (by omega)] at this;exact this⟩
   go_wp2
   refine bodyPost_ret (results_tmp rfl _ _ _) rfl ⟨u5,rfl,HOe.out,HB.out⟩
theorem all_no (g : Nat) (eg : ∀ args w, (callFunc g args).run Tryz.prog w = .ok (.enter g args) w) (u : Value) (p : S23 → Bool) (A : Option Addr) (c : Nat) (xs : List S23) (w : World) (hC : Kd.C k23 w A xs.length xs) (hc : xs.length ≤ c)
  (hp : ∀ (x : S23) (W : World),x ∈ xs → Below w.heap.size w W → Calls Tryz.prog g #[.agg #[.string x.f0,.string x.f1]] W fun e w' => e = .returned (.bool (p x)) ∧ Below W.heap.size W w') :
  Calls Tryz.prog 41 #[.slice A xs.length c,.func (.func g) #[] #[]] w fun e w' => e = .returned (.bool (xs.all p)) ∧ Below w.heap.size w w':=by
 have hlit : ∀ (x : S23) (W : World),x ∈ xs → Below (w.alloc (Obj.cells #[.func (.func g) #[] #[]] 68)).heap.size (w.alloc (Obj.cells #[.func (.func g) #[] #[]] 68)) W → Calls Tryz.prog 70 #[.agg #[.string x.f0,.string x.f1],.pointer (some ⟨w.heap.size,0,none⟩)] W fun e w' => e = .returned (.bool (!p x)) ∧ Below W.heap.size W w':=by
  intro x W hx hW
  have hB:=blk_below (World.alloc_heap_new w (Obj.cells #[.func (.func g) #[] #[]] 68)) hW
  have hcell:=blk_cell hB 0
  have hlt:=blk_lt hB
  have HPX:=aq (hp x (W.alloc (Obj.cells #[.string x.f0,.string x.f1] 23)) hx (below_alloc (below_step (below_alloc (Below.refl _ _) _) hW) _))
  clear hp hC hB hW
  have hcell : W.cell? ⟨w.heap.size,0,none⟩ = some (.func (.func g) #[] #[]):=hcell
  go_enter Tryz.func70,Tryz.ntmps70
  go_wp2_with fail
  refine HPX.out.mono ?_
  rintro e w1 ⟨rfl,hb⟩
  have HB1:=aq (below_step (below_alloc (Below.refl W.heap.size W) (Obj.cells #[.string x.f0,.string x.f1] 23)) hb)
  clear hb
  go_wp2_with fail
  exact bodyPost_ret (results_tmp rfl _ _ _) rfl ⟨rfl,HB1.out⟩
 have HI:=aq (contains_pair 70 (by intro args w;rfl) (.pointer (some ⟨w.heap.size,0,none⟩)) (fun x => !p x) A c xs (w.alloc (Obj.cells #[.func (.func g) #[] #[]] 68)) (Kd.C_below hC (below_alloc (Below.refl _ _) _)) hc hlit)
 have HN : Aside0 ((!xs.any (fun x => !p x)) = xs.all p):=⟨by rw [List.all_eq_not_any_not]⟩
 clear hC hp eg hlit
 go_enter Tryz.func41,Tryz.ntmps41
 go_wp2_with fail
 refine HI.out.mono ?_
 rintro e w1 ⟨rfl,hb⟩
 have HB1:=aq (below_step (below_alloc (Below.refl w.heap.size w) (Obj.cells #[.func (.func g) #[] #[]] 68)) hb)
 clear hb
 go_wp2_with fail
 exact bodyPost_ret (results_tmp rfl _ _ _) rfl ⟨by rw [← HN.out];rfl,HB1.out⟩
theorem all_one (g : Nat) (eg : ∀ args w, (callFunc g args).run Tryz.prog w = .ok (.enter g args) w) (u : Value) (p : S23 → Bool) (A : Option Addr) (c : Nat) (xs : List S23) (w : World) (hC : Kd.C k23 w A xs.length xs) (hc : xs.length ≤ c)
  (hp : ∀ (x : S23) (W : World),x ∈ xs → Below w.heap.size w W → Calls Tryz.prog g #[.agg #[.string x.f0,.string x.f1],u] W fun e w' => e = .returned (.bool (p x)) ∧ Below W.heap.size W w') :
  Calls Tryz.prog 41 #[.slice A xs.length c,.func (.func g) #[] #[u]] w fun e w' => e = .returned (.bool (xs.all p)) ∧ Below w.heap.size w w':=by
 have hlit : ∀ (x : S23) (W : World),x ∈ xs → Below (w.alloc (Obj.cells #[.func (.func g) #[] #[u]] 68)).heap.size (w.alloc (Obj.cells #[.func (.func g) #[] #[u]] 68)) W → Calls Tryz.prog 70 #[.agg #[.string x.f0,.string x.f1],.pointer (some ⟨w.heap.size,0,none⟩)] W fun e w' => e = .returned (.bool (!p x)) ∧ Below W.heap.size W w':=by
  intro x W hx hW
  have hB:=blk_below (World.alloc_heap_new w (Obj.cells #[.func (.func g) #[] #[u]] 68)) hW
  have hcell:=blk_cell hB 0
  have hlt:=blk_lt hB
  have HPX:=aq (hp x (W.alloc (Obj.cells #[.string x.f0,.string x.f1] 23)) hx (below_alloc (below_step (below_alloc (Below.refl _ _) _) hW) _))
  clear hp hC hB hW
  have hcell : W.cell? ⟨w.heap.size,0,none⟩ = some (.func (.func g) #[] #[u]):=hcell
  go_enter Tryz.func70,Tryz.ntmps70
  go_wp2_with fail
  refine HPX.out.mono ?_
  rintro e w1 ⟨rfl,hb⟩
  have HB1:=aq (below_step (below_alloc (Below.refl W.heap.size W) (Obj.cells #[.string x.f0,.string x.f1] 23)) hb)
  clear hb
  go_wp2_with fail
  exact bodyPost_ret (results_tmp rfl _ _ _) rfl ⟨rfl,HB1.out⟩
 have HI:=aq (contains_pair 70 (by intro args w;rfl) (.pointer (some ⟨w.heap.size,0,none⟩)) (fun x => !p x) A c xs (w.alloc (Obj.cells #[.func (.func g) #[] #[u]] 68)) (Kd.C_below hC (below_alloc (Below.refl _ _) _)) hc hlit)
 have HN : Aside0 ((!xs.any (fun x => !p x)) = xs.all p):=⟨by rw [List.all_eq_not_any_not]⟩
 clear hC hp eg hlit
 go_enter Tryz.func41,Tryz.ntmps41
 go_wp2_with fail
 refine HI.out.mono ?_
 rintro e w1 ⟨rfl,hb⟩
 have HB1:=aq (below_step (below_alloc (Below.refl w.heap.size w) (Obj.cells #[.func (.func g) #[] #[u]] 68)) hb)
 clear hb
 go_wp2_with fail
 exact bodyPost_ret (results_tmp rfl _ _ _) rfl ⟨by rw [← HN.out];rfl,HB1.out⟩
end Go.Proofs.YtaokkkolbifdpaaGreatDoor.Hand
end

section
namespace Go.Proofs
open Go.Shelf
def Tryz.lays190_ren : Go.Shelf.Ren := ⟨fun | 190 => 98 | 125 => 119 | 258 => 118 | 128 => 143 | 129 => 144 | 302 => 134 | 303 => 135 | 304 => 136 | 305 => 137 | 306 => 138 | 307 => 139 | 308 => 140 | 309 => 141 | 310 => 142 | 333 => 150 | 329 => 151 | 330 => 152 | 334 => 153 | 335 => 154 | 336 => 155 | 344 => 156 | n => n, fun | 31 => 45 | 9 => 9 | 3 => 3 | 46 => 113 | 0 => 0 | 51 => 130 | 53 => 154 | 4 => 4 | 183 => 146 | 182 => 145 | 131 => 150 | 5 => 5 | 218 => 163 | 222 => 167 | 228 => 169 | 229 => 170 | n => n, fun | n => n⟩
theorem Tryz.lays190 : Go.Proofs.Lays.n190 Tryz.prog Tryz.lays190_ren := {
 mixed:=by kernel_rfl
 f125:=Tryz.func119.trans (congrArg some (by kernel_rfl))
 f128:=Tryz.func143.trans (congrArg some (by kernel_rfl))
 f129:=Tryz.func144.trans (congrArg some (by kernel_rfl))
 f190:=Tryz.func98.trans (congrArg some (by kernel_rfl))
 f258:=Tryz.func118.trans (congrArg some (by kernel_rfl))
 f302:=Tryz.func134.trans (congrArg some (by kernel_rfl))
 f303:=Tryz.func135.trans (congrArg some (by kernel_rfl))
 f304:=Tryz.func136.trans (congrArg some (by kernel_rfl))
 f305:=Tryz.func137.trans (congrArg some (by kernel_rfl))
 f306:=Tryz.func138.trans (congrArg some (by kernel_rfl))
 f307:=Tryz.func139.trans (congrArg some (by kernel_rfl))
 f308:=Tryz.func140.trans (congrArg some (by kernel_rfl))
 f309:=Tryz.func141.trans (congrArg some (by kernel_rfl))
 f310:=Tryz.func142.trans (congrArg some (by kernel_rfl))
 f329:=Tryz.func151.trans (congrArg some (by kernel_rfl))
 f330:=Tryz.func152.trans (congrArg some (by kernel_rfl))
 f333:=Tryz.func150.trans (congrArg some (by kernel_rfl))
 f334:=Tryz.func153.trans (congrArg some (by kernel_rfl))
 f335:=Tryz.func154.trans (congrArg some (by kernel_rfl))
 f336:=Tryz.func155.trans (congrArg some (by kernel_rfl))
 f344:=Tryz.func156.trans (congrArg some (by kernel_rfl))
 t0:=Tryz.underlying0
 a0:=Tryz.isAgg0
 z0:=Tryz.sizeOf0
 v0:=Tryz.zeroValue0
 t3:=Tryz.underlying3
 a3:=Tryz.isAgg3
 z3:=Tryz.sizeOf3
 v3:=Tryz.zeroValue3
 t4:=Tryz.underlying4
 a4:=Tryz.isAgg4
 z4:=Tryz.sizeOf4
 v4:=Tryz.zeroValue4
 t5:=Tryz.underlying5
 a5:=Tryz.isAgg5
 z5:=Tryz.sizeOf5
 v5:=Tryz.zeroValue5
 t9:=Tryz.underlying9
 a9:=Tryz.isAgg9
 z9:=Tryz.sizeOf9
 v9:=Tryz.zeroValue9
 t31:=Tryz.underlying45
 a31:=Tryz.isAgg45
 z31:=Tryz.sizeOf45
 v31:=Tryz.zeroValue45
 t46:=Tryz.underlying113
 a46:=Tryz.isAgg113
 z46:=Tryz.sizeOf113
 v46:=Tryz.zeroValue113
 t51:=Tryz.underlying130
 a51:=Tryz.isAgg130
 z51:=Tryz.sizeOf130
 v51:=Tryz.zeroValue130
 t53:=Tryz.underlying154
 a53:=Tryz.isAgg154
 z53:=Tryz.sizeOf154
 v53:=Tryz.zeroValue154
 t131:=Tryz.underlying150
 a131:=Tryz.isAgg150
 z131:=Tryz.sizeOf150
 v131:=Tryz.zeroValue150
 t182:=Tryz.underlying145
 a182:=Tryz.isAgg145
 z182:=Tryz.sizeOf145
 v182:=Tryz.zeroValue145
 t183:=Tryz.underlying146
 a183:=Tryz.isAgg146
 z183:=Tryz.sizeOf146
 v183:=Tryz.zeroValue146
 t218:=Tryz.underlying163
 a218:=Tryz.isAgg163
 z218:=Tryz.sizeOf163
 v218:=Tryz.zeroValue163
 t222:=Tryz.underlying167
 a222:=Tryz.isAgg167
 z222:=Tryz.sizeOf167
 v222:=Tryz.zeroValue167
 t228:=Tryz.underlying169
 a228:=Tryz.isAgg169
 z228:=Tryz.sizeOf169
 v228:=Tryz.zeroValue169
 t229:=Tryz.underlying170
 a229:=Tryz.isAgg170
 z229:=Tryz.sizeOf170
 v229:=Tryz.zeroValue170 }
open Go.Sort Go.RowKit in
theorem Tryz.slices_Sort_string (blk off cap : Nat) (ss : List (List UInt8)) (w : World) (hH : Holds encStr w blk off ss.toArray) (hblk : blk < w.heap.size) (hsz : ss.length < 4611686018427387904) :
  Calls Tryz.prog 98 #[.slice (some ⟨blk,off,none⟩) ss.length cap] w fun e w' =>
   e = .returned (.tuple #[]) ∧ ∃ n os,w' = grow (putRow encStr (Sort.ahead w n) blk off (ss.mergeSort fun x y => decide (x ≤ y)).toArray) os:=Any.slices_Sort_string Tryz.lays190 blk off cap ss w hH hblk hsz
def Tryz.lays194_ren : Go.Shelf.Ren := ⟨fun | 194 => 99 | n => n, fun | 31 => 45 | 9 => 9 | 3 => 3 | 4 => 4 | 0 => 0 | n => n, fun | n => n⟩
theorem Tryz.lays194 : Go.Proofs.Lays.n194 Tryz.prog Tryz.lays194_ren := {
 mixed:=by kernel_rfl
 f194:=Tryz.func99.trans (congrArg some (by kernel_rfl))
 t0:=Tryz.underlying0
 a0:=Tryz.isAgg0
 z0:=Tryz.sizeOf0
 v0:=Tryz.zeroValue0
 t3:=Tryz.underlying3
 a3:=Tryz.isAgg3
 z3:=Tryz.sizeOf3
 v3:=Tryz.zeroValue3
 t4:=Tryz.underlying4
 a4:=Tryz.isAgg4
 z4:=Tryz.sizeOf4
 v4:=Tryz.zeroValue4
 t9:=Tryz.underlying9
 a9:=Tryz.isAgg9
 z9:=Tryz.sizeOf9
 v9:=Tryz.zeroValue9
 t31:=Tryz.underlying45
 a31:=Tryz.isAgg45
 z31:=Tryz.sizeOf45
 v31:=Tryz.zeroValue45 }
open Go.RowKit Go.Lib Go.Sort in
theorem Tryz.slices_Compact_string (blk off cap : Nat) (zs : List (List UInt8)) (w : World) (hH : Holds encStr w blk off zs.toArray) (hsz : zs.length ≤ 9223372036854775807) (hcap : zs.length ≤ cap) :
  Calls Tryz.prog 99 #[.slice (some ⟨blk,off,none⟩) zs.length cap] w fun e w' => e = .returned (.slice (some ⟨blk,off,none⟩) (Lib.compact zs).length cap) ∧ ∃ q,w' = putRow encStr (Sort.ahead w q) blk off (Lib.compact zs ++ List.replicate (zs.length - (Lib.compact zs).length) []).toArray:=Any.slices_Compact_string Tryz.lays194 blk off cap zs w hH hsz hcap
open Go.RowKit Go.Lib Go.Sort in
theorem Tryz.slices_Compact_string_empty (a : Option Addr) (cap : Nat) (w : World) :
  Calls Tryz.prog 99 #[.slice a 0 cap] w fun e w' => e = .returned (.slice a 0 cap) ∧ w' = w:=Any.slices_Compact_string_empty Tryz.lays194 a cap w
open Go.RowKit Go.Sort in
theorem Tryz.slices_Sort_string_none (p : Option Addr) (cap : Nat) (w : World) :
  Calls Tryz.prog 98 #[.slice p 0 cap] w fun e w' => e = .returned (.tuple #[]) ∧ w' = w:=Any.slices_Sort_string_none Tryz.lays190 p cap w
end Go.Proofs
end

section
namespace Go.Proofs.YtaokkkolbifdpaaGreatDoor.Hand
open Go.RowKit Go.Sort Go.Proofs.YtaokkkolbifdpaaGreatDoorW.PrintWords Go.Proofs.YtaokkkolbifdpaaGreatDoorW.PrintLast Go.Proofs.YtaokkkolbifdpaaGreatDoorW.PrintMore
theorem own_empty_s (W : World) (base e g : Nat) (h : W.heap[g]? = some (.cells #[] e (0, 0))) (hb : base ≤ g) : W.ownsRow base e 1 (.slice (some ⟨g, 0, none⟩) 0 0) 0 [] :=
 ⟨rfl,.inr ⟨g,0,#[],rfl,hb,h,Nat.le_refl _,by decide,rfl,rfl⟩⟩
theorem clone_str (A0 : Option Addr) (c0 : Nat) (l0 : List ByteArray) (w : World) (hr0 : Kd.C Kd.string w A0 l0.length l0) (hc0 : l0.length ≤ c0) (hg : l0.length ≤ 1048576) :
  Calls Tryz.prog 97 #[.slice A0 l0.length c0] w fun e w' => ∃ v0_ : Value,e = .returned (v0_) ∧ Kd.R Kd.string 9 w' w.heap.size (fun _ => True) v0_ l0 ∧ Below w.heap.size w w':=by
 have HR:=aq hr0
 cases A0 with
 | none =>
  have hn : l0.length = 0:=by
   rcases Nat.eq_zero_or_pos l0.length with h|h
   ·
    exact h
   ·
    obtain ⟨ad,h1,_⟩:=(Kd.reads_of_C (enc:=Value.string) (d:=ByteArray.empty) (h1:=fun _ => rfl) hr0).2.2 h
    cases h1
  obtain rfl:=List.length_eq_zero_iff.1 hn
  have hq:=fun (W : World) (n c : Nat) => Lib.run_eql_slice_nil (P:=Tryz.prog) W 45 9 none n c 0 0 Tryz.underlying45
  clear hr0 hn hg
  go_enter Tryz.func97,Tryz.ntmps97
  go_wp2
  go_ret
  exact ⟨_,rfl,Kd.R_nil _ _ _ _ _,Below.refl _ _⟩
 | some ad =>
  clear hr0
  have hq:=fun (W : World) (n c : Nat) => Lib.run_eql_slice_nil (P:=Tryz.prog) W 45 9 (some ad) n c 0 0 Tryz.underlying45
  go_enter Tryz.func97,Tryz.ntmps97
  go_wp2_with (first|(at_builtin;refine Kd.R_append_rows Kd.string (w0:=w) w.heap.size rfl (.tmp 5) (.tmp 6) 45 9 (.string ⟨#[]⟩) 16 rfl Tryz.underlying45 lines_info rfl (by decide) (by omega) (.slice (some ⟨w.heap.size,0,none⟩) 0 0) ([] : List ByteArray) l0 _ _ _ (fun _ => True) (fun _ => False) rfl rfl ?aO ?aR (fun _ _ h => h) (fun _ h => h.elim) ?aF ?aB ?aS ?aL ?_;(case aR => exact Kd.C_alloc HR.out _);(case aB => exact below_alloc (Below.refl _ _) _);(case aF => exact (fun _ _ => trivial));(case aO => exact (Kd.R_of_own (own_empty_s _ _ _ _ (blk_new _ _) (Nat.le_refl _)) (fun _ _ => trivial)));(case aS => exact (by simp));(case aL => exact (by show (0 + l0.length) * 16 ≤ 140737488355328;omega));intro v1 w1 ho hb hg hat;have HB2:=aq hb;have HO2:=aq ho;clear ho hb hg hat))
  go_ret
  exact ⟨_,rfl,HO2.out,HB2.out⟩
def risingB (ss : List (List UInt8)) : List (List UInt8) := Lib.compact (ss.mergeSort fun x y => decide (x ≤ y))
theorem compact_len (zs : List (List UInt8)) : (Lib.compact zs).length ≤ zs.length := by
 unfold Lib.compact Lib.compactUpTo
 rw [List.length_map]
 exact Nat.le_trans (List.length_filter_le _ _) (by simp)
theorem rising_nil : risingB [] = [] := by
 unfold risingB
 rw [List.mergeSort_nil]
 rfl
theorem grow_none (w : World) : grow w #[] = w := by simp [grow]
theorem compacted {W : World} {base g cap n q : Nat} {e : TypeId} {cur : Array Value} {ss L : List (List UInt8)} (hL : L.length = ss.length) (hbase : base ≤ g) (hb : W.heap[g]? = some (.cells cur e (0, 0)))
  (h1 : ss.length ≤ cap) (h2 : cap ≤ maxLen) (h3 : cur.size = cap * 1) (hn : n ≤ ss.length) :
  Kd.C Kd.string (putRow encStr (Sort.ahead W q) g 0 L.toArray) (some ⟨g,0,none⟩) n ((L.take n).map lb) ∧ W.grownBy (putRow encStr (Sort.ahead W q) g 0 L.toArray) (some g):=by
 have hs:=heap_sorted (w:=W) (n:=q) (os:=#[]) (fr:=(0,0)) L.toArray hb
 have hgr:=grownBy_sorted (w:=W) (g:=g) (n:=q) (os:=#[]) L.toArray
 rw [grow_none] at hs hgr
 refine ⟨Kd.C_of_reads (d:=ByteArray.empty) (h1:=fun _ => rfl) ⟨by rw [List.length_map,List.length_take];omega,by unfold maxLen at h2;omega,fun _ => ⟨⟨g,0,none⟩,rfl,fun j hj => ?_⟩⟩,hgr⟩
 have hc:=blk_cell hs j
 have hadd : (⟨g,0,none⟩ : Addr).add j = ⟨g,j,none⟩:=add_plain g j
 rw [hadd,hc]
 have ht:=take_putCells cur L (by rw [h3];omega)
 have h4 : ((putCells encStr 0 L.toArray cur).toList.take L.length)[j]? = (L.map encStr)[j]?:=by rw [ht]
 rw [List.getElem?_take_of_lt (by omega)] at h4
 rw [← Array.getElem?_toList,h4]
 rw [List.getElem?_map,List.getElem?_eq_getElem (by omega),List.getD_eq_getElem?_getD,List.getElem?_map,List.getElem?_take_of_lt hj,List.getElem?_eq_getElem (by omega)]
 rfl
theorem rising_str (A : Option Addr) (c : Nat) (xs : List ByteArray) (w : World) (hC : Kd.C Kd.string w A xs.length xs) (hc : xs.length ≤ c) (hl : xs.length ≤ 1048576) :
  Calls Tryz.prog 74 #[.slice A xs.length c] w fun e w' => ∃ A' c',e = .returned (.slice A' (risingB (xs.map bl)).length c') ∧ (risingB (xs.map bl)).length ≤ c' ∧ Kd.C Kd.string w' A' (risingB (xs.map bl)).length ((risingB (xs.map bl)).map lb) ∧ Below w.heap.size w w':=by
 have HCl:=aq (clone_str A c xs w hC hc hl)
 have HL:=aq hl
 clear hC hl
 by_cases h0 : xs = []
 ·
  subst h0
  have hr0 : risingB (([] : List ByteArray).map bl) = []:=rising_nil
  rw [hr0]
  clear hr0
  go_enter Tryz.func74,Tryz.ntmps74
  go_wp2_with fail
  refine HCl.out.mono ?_
  rintro e w1 ⟨v,rfl,hR,hB⟩
  obtain ⟨A1,c1,rfl,hc1,hC1⟩:=Kd.R_reads hR
  have HC1:=aq hC1
  have HB1:=aq hB
  have HS:=aq (Tryz.slices_Sort_string_none A1 c1 w1)
  have HP:=aq (Tryz.slices_Compact_string_empty A1 c1 w1)
  clear hR hB hC1
  go_wp2_with fail
  refine HS.out.mono ?_
  rintro e w2 ⟨rfl,rfl⟩
  go_wp2_with fail
  refine HP.out.mono ?_
  rintro e w3 ⟨rfl,rfl⟩
  go_wp2_with fail
  exact bodyPost_ret (results_tmp rfl _ _ _) rfl ⟨A1,c1,rfl,Nat.zero_le _,HC1.out,HB1.out⟩
 ·
  have hpos : 0 < xs.length:=List.length_pos_iff.2 h0
  have HPos:=aq hpos
  clear h0 hpos
  go_enter Tryz.func74,Tryz.ntmps74
  go_wp2_with fail
  refine HCl.out.mono ?_
  rintro e w1 ⟨v,rfl,hR,hB⟩
  have hown:=Kd.own_of_R hR
  have hen : encs Value.string xs = (xs.map bl).map encStr:=by
   unfold encs
   rw [List.map_map]
   exact List.map_congr_left fun s _ => by show Value.string s = Value.string (lb (bl s));rw [lb_bl]
  rcases hown.2 with ⟨hnil,hz⟩|⟨g,cap,cur,rfl,hbase,hb,h1,h2,h3,h4⟩
  ·
   have:=HPos.out
   have : xs.length = 0:=by first|exact hz|exact hz.1
   omega
  ·
   rw [hen] at h4
   have hml : (xs.map bl).length = xs.length:=List.length_map _
   have hH : Go.Sort.Holds encStr w1 g 0 (xs.map bl).toArray:=holds_of_block hb (by rw [hml];simpa using h4)
   have hglt : g < w1.heap.size:=(Array.getElem?_eq_some_iff.1 hb).1
   obtain ⟨ts,hts⟩ : ∃ ts,ts = (xs.map bl).mergeSort fun x y => decide (x ≤ y):=⟨_,rfl⟩
   have hlt : ts.length = xs.length:=by rw [hts,List.length_mergeSort,hml]
   have HS:=aq (Tryz.slices_Sort_string g 0 cap (xs.map bl) w1 hH hglt (by rw [hml];have:=HL.out;omega))
   rw [hml,← hts] at HS
   have HOwn:=aq (And.intro hbase (And.intro hb (And.intro h1 (And.intro h2 (And.intro h3 h4)))))
   have HB1:=aq hB
   have HLt:=aq hlt
   have HTs:=aq hts
   clear hR hB hown hen hH hbase hb h1 h2 h3 h4 hml hts hlt
   go_wp2_with fail
   refine HS.out.mono ?_
   rintro e w2 ⟨rfl,n,os,hw2⟩
   have hb2:=heap_sorted (w:=w1) (n:=n) (os:=os) (fr:=(0,0)) ts.toArray HOwn.out.2.1
   have hg2:=grownBy_sorted (w:=w1) (g:=g) (n:=n) (os:=os) ts.toArray
   have hk:=ownsRow_sorted (w:=w1) (base:=w.heap.size) (n:=n) (os:=os) (e:=9) (ss:=xs.map bl) (ts:=ts) (by rw [HLt.out,List.length_map]) HOwn.out.1 HOwn.out.2.1 (by rw [List.length_map];exact HOwn.out.2.2.1) HOwn.out.2.2.2.1 HOwn.out.2.2.2.2.1
   rw [← hw2] at hb2 hg2 hk
   have hsz2 : (putCells encStr 0 ts.toArray cur).size = cap * 1:=by rw [← HOwn.out.2.2.2.2.1];simp [putCells]
   have hH2 : Go.Sort.Holds encStr w2 g 0 ts.toArray:=holds_of_block hb2 (take_putCells cur ts (by rw [HLt.out,HOwn.out.2.2.2.2.1];have:=HOwn.out.2.2.1;omega))
   have HP:=aq (Tryz.slices_Compact_string g 0 cap ts w2 hH2 (by rw [HLt.out];have:=HL.out;omega) (by rw [HLt.out];exact HOwn.out.2.2.1))
   rw [HLt.out] at HP
   have HB2:=aq (pw_below_grown HB1.out (some g) HB1.out.size hg2 (fun k hk => by cases hk;exact HOwn.out.1))
   have HQ:=aq (fun q => compacted (W:=w2) (base:=w.heap.size) (g:=g) (cap:=cap) (n:=(Lib.compact ts).length) (q:=q) (e:=9) (ss:=ts) (L:=Lib.compact ts ++ List.replicate (xs.length - (Lib.compact ts).length) []) (by rw [List.length_append,List.length_replicate];have:=compact_len ts;have:=HLt.out;omega) HOwn.out.1 hb2 (by rw [HLt.out];exact HOwn.out.2.2.1) HOwn.out.2.2.2.1 hsz2 (compact_len ts))
   have HCap : Aside0 ((Lib.compact ts).length ≤ cap):=⟨by have:=compact_len ts;have:=HLt.out;have:=HOwn.out.2.2.1;omega⟩
   clear hw2 hb2 hg2 hk hsz2 hH2
   go_wp2_with fail
   refine HP.out.mono ?_
   rintro e w3 ⟨rfl,q,hw3⟩
   have hq:=HQ.out q
   rw [← hw3,List.take_left'] at hq
   ·
    have HC3:=aq hq.1
    have HB3:=aq (pw_below_grown HB2.out (some g) HB2.out.size hq.2 (fun k hk => by cases hk;exact HOwn.out.1))
    have HE : Aside0 (risingB (xs.map bl) = Lib.compact ts):=⟨by unfold risingB;rw [HTs.out]⟩
    clear hw3 hq
    go_wp2_with fail
    rw [HE.out]
    exact bodyPost_ret (results_tmp rfl _ _ _) rfl ⟨_,_,rfl,HCap.out,HC3.out,HB3.out⟩
   ·
    rfl
theorem unlike_str (A : Option Addr) (c : Nat) (xs : List ByteArray) (w : World) (hC : Kd.C Kd.string w A xs.length xs) (hc : xs.length ≤ c) (hl : xs.length ≤ 1048576) :
  Calls Tryz.prog 44 #[.slice A xs.length c] w fun e w' => e = .returned (.bool (decide ((risingB (xs.map bl)).length = xs.length))) ∧ Below w.heap.size w w':=by
 have HR:=aq (rising_str A c xs w hC hc hl)
 clear hC hl
 obtain ⟨n,hn⟩ : ∃ n,n = (risingB (xs.map bl)).length:=⟨_,rfl⟩
 rw [← hn] at HR ⊢
 clear hn
 have hde : (((n : Int) == (xs.length : Int)) : Bool) = decide (n = xs.length):=by
  by_cases h : n = xs.length
  ·
   rw [decide_eq_true h,h];exact beq_self_eq_true _
  ·
   rw [decide_eq_false h];exact beq_eq_false_iff_ne.2 (by omega)
 have HDE:=aq hde
 clear hde
 go_enter Tryz.func44,Tryz.ntmps44
 go_wp2_with fail
 refine HR.out.mono ?_
 rintro e w1 ⟨A1,c1,rfl,_,_,hB⟩
 have HB1:=aq hB
 clear hB
 go_wp2_with fail
 refine bodyPost_ret (results_tmp rfl _ _ _) rfl ⟨?_,HB1.out⟩
 first
  | exact congrArg (fun b => Ending.returned (.bool b)) HDE.out
  | (simp;done)
  | (rw [← HDE.out];rfl)
end Go.Proofs.YtaokkkolbifdpaaGreatDoor.Hand
end

section
namespace Go.Proofs.YtaokkkolbifdpaaGreatDoor.Hand
open Go.RowKit Go.Shelf Go.Proofs.YtaokkkolbifdpaaGreatDoorW.PrintWords Go.Proofs.YtaokkkolbifdpaaGreatDoorW.PrintLast Go.Proofs.YtaokkkolbifdpaaGreatDoorW.PrintMore
abbrev WrongE (e : Int) : List PanicEntry := [{ v := .iface 156 (.agg #[.int .i64 e]), recovered := false }]
def Scan (w : World) (b : Nat) (s : ByteArray) (i : Nat) : Prop := w.heap[b]? = some (.cells #[.string s, .int .i64 (i : Int)] 139 (0, 0))
theorem kind_unless (e : Int) (w : World) : Calls Tryz.prog 122 #[.bool true, .int .i64 e] w fun x w' => x = .returned (.tuple #[]) ∧ w' = w := by
 go_enter Tryz.func122,Tryz.ntmps122
 go_wp2
 go_end0
 exact ⟨rfl,rfl⟩
theorem kind_unless_not (e : Int) (w : World) : Calls Tryz.prog 122 #[.bool false, .int .i64 e] w fun x w' => x = .panicked (WrongE e) ∧ w' = w := by
 go_enter Tryz.func122,Tryz.ntmps122
 go_wp2
 exact ⟨rfl,rfl,rfl⟩
theorem scan_cells {w : World} {b : Nat} {s : ByteArray} {i : Nat} (h : Scan w b s i) : w.cell? ⟨b, 0, none⟩ = some (.string s) ∧ w.cell? ⟨b, 1, none⟩ = some (.int .i64 (i : Int)) ∧ w.frozen? ⟨b, 1, none⟩ = false := by
 have h0:=blk_cell h 0
 have h1:=blk_cell h 1
 simp only [List.getElem?_toArray,List.getElem?_cons_zero,List.getElem?_cons_succ] at h0 h1
 exact ⟨h0,h1,blk_frozen h 1⟩
theorem scan_sees_none (b : Nat) (s : ByteArray) (i : Nat) (c : Int) (w : World) (h : Scan w b s i) (hi : s.size ≤ i) (hm : i ≤ 4611686018427387903) :
  Calls Tryz.prog 124 #[.pointer (some ⟨b,0,none⟩),.int .u8 c] w fun x w' => x = .returned (.bool false) ∧ Drawn0 w w':=by
 obtain ⟨h0,h1,h2⟩:=scan_cells h
 have hd : decide ((i : Int) < (s.size : Int)) = false:=decide_eq_false (by omega)
 have hnl : ¬ i < s.size:=by omega
 go_enter Tryz.func124,Tryz.ntmps124
 go_wp2
 go_region
 all_goals go_wp2
 all_goals first|(go_ret;exact ⟨rfl,(Drawn0.refl _).step 1⟩)|trace_state
theorem scan_sees_some (b : Nat) (s : ByteArray) (i : Nat) (c : Int) (w : World) (h : Scan w b s i) (hi : i < s.size) (hm : s.size ≤ 4611686018427387903) :
  Calls Tryz.prog 124 #[.pointer (some ⟨b,0,none⟩),.int .u8 c] w fun x w' => x = .returned (.bool ((s[i].toNat : Int) == c)) ∧ Drawn0 w w':=by
 obtain ⟨h0,h1,h2⟩:=scan_cells h
 have hd : decide ((i : Int) < (s.size : Int)) = true:=decide_eq_true (by omega)
 go_enter Tryz.func124,Tryz.ntmps124
 go_wp2
 go_region
 all_goals go_wp2
 all_goals first|(go_ret;exact ⟨rfl,(Drawn0.refl _).step 1⟩)|trace_state
theorem scan_next {w : World} {b : Nat} {s : ByteArray} {i : Nat} (h : Scan w b s i) (n m : Nat) : Scan (((w.drewN n).setCell ⟨b, 1, none⟩ (.int .i64 ((i : Int) + 1))).drewN m) b s (i + 1) := by
 have h1 : Scan (w.drewN n) b s i:=by
  unfold Scan at h ⊢
  rw [(pw_below_drewN (Below.refl (w.heap.size) w) n).block b (Array.getElem?_eq_some_iff.1 h).1]
  exact h
 have h2:=blk_set h1 1 (.int .i64 ((i : Int) + 1))
 simp only [List.setIfInBounds_toArray,List.set_cons_zero,List.set_cons_succ] at h2
 have hl:=(Array.getElem?_eq_some_iff.1 h2).1
 unfold Scan
 rw [(pw_below_drewN (Below.refl _ _) m).block b hl]
 exact h2
theorem scan_setCell (w : World) (a : Addr) (u : Value) : w.grownBy (w.setCell a u) (some a.block) :=
 ⟨rfl,rfl,rfl,Nat.le_of_eq (World.size_setCell w a u).symm,fun i hi hne => Below.heap_setCell w a u i (fun e => hne (by rw [e]))⟩
theorem scan_grown (w : World) (b i n m : Nat) : w.grownBy (((w.drewN n).setCell ⟨b, 1, none⟩ (.int .i64 ((i : Int) + 1))).drewN m) (some b) :=
 ((grown_drewN w n b).trans (scan_setCell _ ⟨b,1,none⟩ _)).trans (grown_drewN _ m b)
theorem scan_byte_some (b : Nat) (s : ByteArray) (i : Nat) (w : World) (h : Scan w b s i) (hi : i < s.size) (hm : s.size ≤ 4611686018427387903) :
  Calls Tryz.prog 123 #[.pointer (some ⟨b,0,none⟩)] w fun x w' => x = .returned (.int .u8 (s[i].toNat : Int)) ∧ Scan w' b s (i + 1) ∧ w.grownBy w' (some b):=by
 obtain ⟨h0,h1,h2⟩:=scan_cells h
 have hd : decide ((i : Int) < (s.size : Int)) = true:=decide_eq_true (by omega)
 go_enter Tryz.func123,Tryz.ntmps123
 go_wp2
 have hsum : IntKind.i64.wrap ((i : Int) + 1) = (i : Int) + 1:=IntWalk.i64_in _ ⟨by omega,by omega⟩
 have hsub : IntKind.i64.wrap ((i : Int) + 1 - 1) = (i : Int):=by rw [show (i : Int) + 1 - 1 = i by omega];exact IntWalk.i64_in _ ⟨by omega,by omega⟩
 go_quiet ((go_at_call 122;exact Calls.quiet_of_same (kind_unless _ _)))
 go_wp2
 go_quiet (fail)
 go_wp2
 refine bodyPost_ret (results_tmp rfl _ _ _) rfl ⟨rfl,scan_next h _ _,scan_grown w b i _ _⟩
theorem goesP_ {P : Program} {Q : Exit → Act → World → Prop} {ops : Array Oper} {oi : Oper} {N : Option Tmp} {a : Act} {w : World} {K : Act → World → Prop} {f : FuncId} {fn : Func} {ars : Array Operand} {ts : Array TypeId} (hf : P.funcs[f]? = some fn) (hname : (fn.name == "runtime.NumGoroutine") = false) (hb : fn.body.isSome = true) (args : Array Value)
  (hw : Region.wanted oi (yielded ops a.tmps) = true) (hop : oi.op = .call { callee:=.value (.func f),args:=ars,argTypes:=ts }) (hargs : ars.map a.eval = args)
  (h : Calls P f args w fun e w' => ∃ c,e = .panicked c ∧ Q (.panic c) a w') : if Region.wanted oi (yielded ops a.tmps) = true then Oper.wp P oi a w K Q else K (a.put N undef) w:=by
 rw [if_pos hw]
 have he:=enters_ hf hname hb args w
 have hrun : (execOp a.eval oi).run P w = .ok (.enter f args) w:=by
  unfold execOp
  simp [hop,resolve,Deferred.ofValue,invoke,Act.eval,hargs,he]
 unfold Oper.wp
 rw [hrun,Oper.upon_enter]
 refine h.mono fun e w'' hh => ?_
 obtain ⟨c,rfl,hk⟩:=hh
 exact hk
set_option hygiene false in
macro "kp " i:num N:num l:term : tactic => `(tactic| (refine take_ (i := $i) (N := some $N) (v := ?_) (a' := ?_) $l rfl rfl (by kernel_rfl) (fun _ _ _ h => h) (Or.inl ⟨by rfl, ?_⟩) hHeld ?_ ?_; rotate_left; rintro w' ⟨s0, s1, s2⟩; go_simp; (try with_reducible rfl); rotate_left; (simp only [Act.put, List.setIfInBounds_toArray, List.set_cons_zero, List.set_cons_succ, i64_w, i32_w]; rfl)))
theorem scan_byte_none (b : Nat) (s : ByteArray) (i : Nat) (w : World) (h : Scan w b s i) (hi : s.size ≤ i) (hm : i ≤ 4611686018427387903) :
  Calls Tryz.prog 123 #[.pointer (some ⟨b,0,none⟩)] w fun x w' => x = .panicked (WrongE 1) ∧ w.grownBy w' (some b):=by
 obtain ⟨h0,h1,h2⟩:=scan_cells h
 have hd : decide ((i : Int) < (s.size : Int)) = false:=decide_eq_false (by omega)
 have hd2 : decide (i < s.size) = false:=decide_eq_false (by omega)
 have hB:=below_drew1 (Below.refl w.heap.size w)
 have hs : w.drew.cell? ⟨b,0,none⟩ = some (.string s) ∧ w.drew.cell? ⟨b,1,none⟩ = some (.int .i64 (i : Int)) ∧ w.grownBy w.drew (some b):=⟨pw_cell_below hB h0,pw_cell_below hB h1,grown_of_below hB _⟩
 clear h0 h1 h2 hB
 go_enter Tryz.func123,Tryz.ntmps123
 go_wp2
 refine start_ (n:=11) (S:=fun w' => w'.cell? ⟨b,0,none⟩ = some (.string s) ∧ w'.cell? ⟨b,1,none⟩ = some (.int .i64 (i : Int)) ∧ w.grownBy w' (some b)) (ds:=[]) #[false,false,false,false,false,false,false,false,false,false,false] (by kernel_rfl) rfl rfl hs (fun hHeld => ?_)
 kp 0 3 #[true,false,false,false,false,false,false,false,false,false,false]
 kp 1 4 #[true,true,false,false,false,false,false,false,false,false,false]
 kp 2 5 #[true,true,true,false,false,false,false,false,false,false,false]
 kp 3 6 #[true,true,true,true,false,false,false,false,false,false,false]
 kp 4 7 #[true,true,true,true,true,false,false,false,false,false,false]
 kp 5 8 #[true,true,true,true,true,true,false,false,false,false,false]
 kp 6 9 #[true,true,true,true,true,true,true,false,false,false,false]
 kp 7 10 #[true,true,true,true,true,true,true,true,false,false,false]
 kp 8 11 #[true,true,true,true,true,true,true,true,true,false,false]
 kp 9 12 #[true,true,true,true,true,true,true,true,true,true,false]
 refine one_ (i:=10) (N:=some 13) #[true,true,true,true,true,true,true,true,true,true,true] rfl rfl (by kernel_rfl) (by decide) (fun K hK => ?_)
 refine goesP_ Tryz.func122 (by kernel_rfl) rfl #[.bool false,.int .i64 1] (by rfl) rfl (by simp only [List.map_toArray,List.map_cons,List.map_nil];rfl) ?_
 refine (kind_unless_not _ _).mono ?_
 rintro e w3 ⟨rfl,rfl⟩
 exact ⟨_,rfl,rfl,rfl,hHeld.2.2⟩
theorem scan_done (b : Nat) (s : ByteArray) (i : Nat) (w : World) (h : Scan w b s i) (hi : i = s.size) :
  Calls Tryz.prog 127 #[.pointer (some ⟨b,0,none⟩)] w fun x w' => x = .returned (.tuple #[]) ∧ Drawn0 w w':=by
 obtain ⟨h0,h1,h2⟩:=scan_cells h
 have hd : ((i : Int) == (s.size : Int)) = true:=by subst hi;exact beq_self_eq_true _
 go_enter Tryz.func127,Tryz.ntmps127
 go_wp2
 go_quiet ((go_at_call 122;exact Calls.quiet_of_same (kind_unless _ _)))
 go_wp2
 go_end0
 exact ⟨rfl,⟨_,rfl⟩⟩
theorem scan_done_not (b : Nat) (s : ByteArray) (i : Nat) (w : World) (h : Scan w b s i) (hi : i ≠ s.size) :
  Calls Tryz.prog 127 #[.pointer (some ⟨b,0,none⟩)] w fun x w' => x = .panicked (WrongE 1) ∧ w.grownBy w' (some b):=by
 obtain ⟨h0,h1,h2⟩:=scan_cells h
 have hd : ((i : Int) == (s.size : Int)) = false:=beq_eq_false_iff_ne.2 (by omega)
 have hB:=below_drew1 (Below.refl w.heap.size w)
 have hs : w.drew.cell? ⟨b,0,none⟩ = some (.string s) ∧ w.drew.cell? ⟨b,1,none⟩ = some (.int .i64 (i : Int)) ∧ w.grownBy w.drew (some b):=⟨pw_cell_below hB h0,pw_cell_below hB h1,grown_of_below hB _⟩
 clear h0 h1 h2 hB
 go_enter Tryz.func127,Tryz.ntmps127
 refine start_ (n:=11) (S:=fun w' => w'.cell? ⟨b,0,none⟩ = some (.string s) ∧ w'.cell? ⟨b,1,none⟩ = some (.int .i64 (i : Int)) ∧ w.grownBy w' (some b)) (ds:=[]) #[false,false,false,false,false,false,false,false,false,false,false] (by kernel_rfl) rfl rfl hs (fun hHeld => ?_)
 kp 0 2 #[true,false,false,false,false,false,false,false,false,false,false]
 kp 1 3 #[true,true,false,false,false,false,false,false,false,false,false]
 kp 2 4 #[true,true,true,false,false,false,false,false,false,false,false]
 kp 3 5 #[true,true,true,true,false,false,false,false,false,false,false]
 kp 4 6 #[true,true,true,true,true,false,false,false,false,false,false]
 kp 5 7 #[true,true,true,true,true,true,false,false,false,false,false]
 kp 6 8 #[true,true,true,true,true,true,true,false,false,false,false]
 kp 7 9 #[true,true,true,true,true,true,true,true,false,false,false]
 kp 8 10 #[true,true,true,true,true,true,true,true,true,false,false]
 kp 9 11 #[true,true,true,true,true,true,true,true,true,true,false]
 refine one_ (i:=10) (N:=some 12) #[true,true,true,true,true,true,true,true,true,true,true] rfl rfl (by kernel_rfl) (by decide) (fun K hK => ?_)
 refine goesP_ Tryz.func122 (by kernel_rfl) rfl #[.bool false,.int .i64 1] (by rfl) rfl (by simp only [List.map_toArray,List.map_cons,List.map_nil];rfl) ?_
 refine (kind_unless_not _ _).mono ?_
 rintro e w3 ⟨rfl,rfl⟩
 exact ⟨_,rfl,rfl,rfl,hHeld.2.2⟩
theorem bl_drop (s : ByteArray) (i : Nat) : bl (s.extract i s.size) = (bl s).drop i := by
 unfold bl
 rw [ByteArray.data_extract,Array.toList_extract,List.extract_eq_take_drop,List.take_of_length_le]
 rw [List.length_drop,Array.length_toList]
 exact Nat.le_refl _
theorem max_drewN {w : World} (h : MaxL w) (n : Nat) : MaxL (w.drewN n) := max_below h (pw_below_drewN (Below.refl _ w) n)
theorem scan_drawn {w w' : World} {b : Nat} {s : ByteArray} {i : Nat} (h : Scan w b s i) (hd : Drawn0 w w') : Scan w' b s i := by
 unfold Scan at h ⊢
 rw [hd.below.block b (Array.getElem?_eq_some_iff.1 h).1]
 exact h
theorem scan_set {w : World} {b : Nat} {s : ByteArray} {i : Nat} (h : Scan w b s i) (j : Nat) : Scan (w.setCell ⟨b, 1, none⟩ (.int .i64 (j : Int))) b s j := by
 have h2:=blk_set h 1 (.int .i64 (j : Int))
 simp only [List.setIfInBounds_toArray,List.set_cons_zero,List.set_cons_succ] at h2
 exact h2
theorem cut_at (s : ByteArray) (i : Nat) (w : World) (hM : MaxL w) (hm : s.size ≤ 1048576) (hi : i ≤ s.size) (nm r : List UInt8) (ok : Bool) (hc : Lib.cut ((bl s).drop i) [59] = (nm, r, ok)) (n : Nat) :
  Calls Tryz.prog 24 #[.string (s.extract i s.size),.string ⟨#[59]⟩] (w.drewN n) fun e w'' => e = .returned (.tuple #[.string (lb nm),.string (lb r),.bool ok]) ∧ ∃ m,w'' = w.drewN m:=by
 obtain ⟨m,hmm⟩:=max_drewN hM n
 have:=Tryz.strings_Cut (s.extract i s.size) ⟨#[59]⟩ m (w.drewN n) (by have:=extract_size s i s.size;omega) hmm
 have e : (s.extract i s.size).data.toList = (bl s).drop i:=bl_drop s i
 have e2 : (⟨#[59]⟩ : ByteArray).data.toList = [59]:=rfl
 rw [e,e2,hc] at this
 exact Calls.quiet_of this
theorem cut_name {l nm r : List UInt8} (h : Lib.cut l [59] = (nm, r, true)) : untilL 59 l = some (nm, r) := by
 rw [cut_until] at h
 cases hu : untilL 59 l with
 | none => rw [hu] at h;simp at h
 | some p => rw [hu] at h;simp at h;obtain ⟨rfl,rfl⟩:=h;rfl
theorem scan_class (b : Nat) (s : ByteArray) (i : Nat) (w : World) (hM : MaxL w) (h : Scan w b s i) (hi : i ≤ s.size) (hm : s.size ≤ 1048576) (nm r : List UInt8) (hu : untilL 59 ((bl s).drop i) = some (nm, r)) (hcl : classL nm = true) :
  Calls Tryz.prog 146 #[.pointer (some ⟨b,0,none⟩)] w fun x w' => x = .returned (.string (lb nm)) ∧ Scan w' b s (s.size - r.length) ∧ w.grownBy w' (some b):=by
 obtain ⟨h0,h1,h2⟩:=scan_cells h
 have hcut : Lib.cut ((bl s).drop i) [59] = (nm,r,true):=by rw [cut_until,hu]
 have hrl : r.length ≤ s.size:=by
  have:=congrArg List.length (until_some _ _ _ hu).1
  rw [List.length_drop,bl_len] at this
  simp at this
  omega
 have hnl : nm.length ≤ s.size:=by
  have:=congrArg List.length (until_some _ _ _ hu).1
  rw [List.length_drop,bl_len] at this
  simp at this
  omega
 have HC:=aq (cut_at s i w hM hm hi nm r true hcut)
 have HK:=aq (fun n => (word_Class.calls (lb nm) true (w.drewN n) (by unfold word_Class.f;rw [if_pos (by show nm.length ≤ _;omega)];exact congrArg some hcl)))
 have hi1 : (i : Int) ≤ (s.size : Int):=by omega
 have hsz : (lb r).size = r.length:=by unfold lb;rfl
 go_enter Tryz.func146,Tryz.ntmps146
 go_wp2
 go_quiet ((go_at_call 24;exact HC.out _))
 go_wp2_with (first|(go_at_call 43;refine (HK.out _).mono ?_;rintro e w1 ⟨rfl,hd1⟩;have hD : Drawn0 w w1:=drawn_trans ⟨⟨_,rfl⟩⟩ hd1;have hs1:=scan_drawn h hD;obtain ⟨q0,q1,q2⟩:=scan_cells hs1;clear hd1)|(go_at_call 122;refine (kind_unless _ _).mono ?_;rintro e w2 ⟨rfl,rfl⟩))
 refine bodyPost_ret (results_tmp rfl _ _ _) rfl ⟨rfl,?_,?_⟩
 ·
  rw [show (s.size : Int) - (r.length : Int) = ((s.size - r.length : Nat) : Int) by omega]
  exact scan_set hs1 _
 ·
  exact (grown_of_below hD.below _).trans (scan_setCell _ ⟨b,1,none⟩ _)
theorem scan_class_not (b : Nat) (s : ByteArray) (i : Nat) (w : World) (hM : MaxL w) (h : Scan w b s i) (hi : i ≤ s.size) (hm : s.size ≤ 1048576) (hu : ∀ nm r, untilL 59 ((bl s).drop i) = some (nm, r) → classL nm = false) :
  Calls Tryz.prog 146 #[.pointer (some ⟨b,0,none⟩)] w fun x w' => x = .panicked (WrongE 1) ∧ w.grownBy w' (some b):=by
 obtain ⟨h0,h1,h2⟩:=scan_cells h
 obtain ⟨nm,r,ok,hcut⟩ : ∃ nm r ok,Lib.cut ((bl s).drop i) [59] = (nm,r,ok):=⟨_,_,_,rfl⟩
 have HC:=aq (cut_at s i w hM hm hi nm r ok hcut)
 have hi1 : (i : Int) ≤ (s.size : Int):=by omega
 cases ok with
 | false =>
  go_enter Tryz.func146,Tryz.ntmps146
  go_wp2
  go_quiet ((go_at_call 24;exact HC.out _))
  go_wp2_with (go_at_call 122;refine (kind_unless_not _ _).mono ?_;rintro e w2 ⟨rfl,rfl⟩)
  exact ⟨rfl,rfl,grown_drewN _ _ _⟩
 | true =>
  have hu1:=cut_name hcut
  have hcl:=hu nm r hu1
  have hnl : nm.length ≤ s.size:=by
   have:=congrArg List.length (until_some _ _ _ hu1).1
   rw [List.length_drop,bl_len] at this
   simp at this
   omega
  have HK:=aq (fun n => (word_Class.calls (lb nm) false (w.drewN n) (by unfold word_Class.f;rw [if_pos (by show nm.length ≤ _;omega)];exact congrArg some hcl)))
  clear hu hu1 hcut
  go_enter Tryz.func146,Tryz.ntmps146
  go_wp2
  go_quiet ((go_at_call 24;exact HC.out _))
  go_wp2_with (first|(go_at_call 43;refine (HK.out _).mono ?_;rintro e w1 ⟨rfl,hd1⟩;have hD : Drawn0 w w1:=drawn_trans ⟨⟨_,rfl⟩⟩ hd1;clear hd1)|(go_at_call 122;refine (kind_unless_not _ _).mono ?_;rintro e w2 ⟨rfl,rfl⟩))
  exact ⟨rfl,rfl,grown_of_below hD.below _⟩
def endS (b : Nat) (s : ByteArray) (w : World) (q : Option (Ty × List UInt8)) (x : Ending) (w' : World) : Prop :=
 w.grownBy w' (some b) ∧ match q with
  | some (t,r) => x = .returned (.agg #[.int .i64 t.1,.string (lb t.2)]) ∧ Scan w' b s (s.size - r.length)
  | none => x = .panicked (WrongE 1)
theorem max_grown {w w' : World} {b : Nat} (h : MaxL w) (hb : 0 ≠ b) (hg : w.grownBy w' (some b)) : MaxL w' := by
 obtain ⟨m,hm⟩:=h
 have hl:=World.block_lt_of_cell? w _ hm
 refine ⟨m,?_⟩
 have e:=hg.block 0 hl (by simpa using hb)
 exact by rw [← hm];unfold World.cell?;rw [e]
theorem drop_cons (s : ByteArray) (i : Nat) (hi : i < s.size) : (bl s).drop i = s[i] :: (bl s).drop (i + 1) := drop_data s i hi
def Res (w : World) (g : Nat) : Prop := w.heap[g]? = some (.cells #[.int .i64 0, .string ⟨#[]⟩] 102 (0, 0))
theorem res_cells {w : World} {g : Nat} (h : Res w g) : w.cell? ⟨g, 0, none⟩ = some (.int .i64 0) ∧ w.cell? ⟨g, 1, none⟩ = some (.string ⟨#[]⟩) ∧ w.frozen? ⟨g, 0, none⟩ = false ∧ w.frozen? ⟨g, 1, none⟩ = false := by
 have h0:=blk_cell h 0
 have h1:=blk_cell h 1
 simp only [List.getElem?_toArray,List.getElem?_cons_zero,List.getElem?_cons_succ] at h0 h1
 exact ⟨h0,h1,blk_frozen h 0,blk_frozen h 1⟩
theorem res_new (w : World) : Res (w.alloc (.cells #[.int .i64 0, .string ⟨#[]⟩] 102)) w.heap.size := World.alloc_heap_new _ _
theorem res_kept {w w' : World} {g b : Nat} (h : Res w g) (hg : w.grownBy w' (some b)) (hne : g ≠ b) : Res w' g := by
 unfold Res at h ⊢
 rw [hg.block g (Array.getElem?_eq_some_iff.1 h).1 (by simpa using hne)]
 exact h
theorem scan_alloc {w : World} {b : Nat} {s : ByteArray} {i : Nat} (h : Scan w b s i) (o : Obj) : Scan (w.alloc o) b s i := by
 unfold Scan at h ⊢
 rw [Below.heap_alloc w o b (Array.getElem?_eq_some_iff.1 h).1]
 exact h
theorem scan_far {w : World} {b : Nat} {s : ByteArray} {i : Nat} (h : Scan w b s i) {p : Addr} (hp : p.block ≠ b) (v : Value) : Scan (w.setCell p v) b s i := by
 unfold Scan at h ⊢
 rw [Below.heap_setCell w p v b (fun e => hp e.symm)]
 exact h
theorem grown_res {w w1 : World} {b : Nat} {o : Obj} (h : (w.alloc o).grownBy w1 (some b)) : w.grownBy w1 (some b) := (World.grownBy_alloc w o _).trans h
theorem grown_res2 {w w1 : World} {b : Nat} {o : Obj} (h : (w.alloc o).grownBy w1 (some b)) (u v : Value) : w.grownBy ((w1.setCell ⟨w.heap.size, 0, none⟩ u).setCell ⟨w.heap.size, 1, none⟩ v) (some b) := by
 have h0:=grown_res h
 refine ⟨h0.os,h0.tape,h0.output,?_,fun k hk hne => ?_⟩
 ·
  simpa using h0.size
 ·
  rw [Below.heap_setCell _ _ _ _ (by simp;omega),Below.heap_setCell _ _ _ _ (by simp;omega)]
  exact h0.block k hk hne
theorem at_len (s : ByteArray) (i : Nat) (hi : i < s.size) : s.size - ((bl s).drop (i + 1)).length = i + 1 := by
 rw [List.length_drop,bl_len]
 omega
theorem byte_of {x : UInt8} {n : Nat} [OfNat UInt8 n] (e : (x.toNat : Int) = n) : x = UInt8.ofNat n := by
 have : x.toNat = n:=by omega
 rw [← this,UInt8.ofNat_toNat]
theorem one_any (b : Nat) (s : ByteArray) (i : Nat) (w : World) (hM : MaxL w) (hb : 0 ≠ b) (h : Scan w b s i) (hi : i ≤ s.size) (hm : s.size ≤ 1048576)
  (hArr : ∀ W,Scan W b s (i + 1) → MaxL W → (∃ l,(bl s).drop i = 91 :: l) → Calls Tryz.prog 147 #[.pointer (some ⟨b,0,none⟩)] W (endS b s W (flatT classL 2 ((bl s).drop (i + 1))))) :
  Calls Tryz.prog 125 #[.pointer (some ⟨b,0,none⟩)] w (endS b s w (oneT classL ((bl s).drop i))):=by
 have hbl : b < w.heap.size:=(Array.getElem?_eq_some_iff.1 h).1
 have hS0:=scan_alloc h (.cells #[.int .i64 0,.string ⟨#[]⟩] 102)
 have hM0:=max_grown hM (b:=w.heap.size) (by obtain ⟨m,hm⟩:=hM;have:=World.block_lt_of_cell? w _ hm;simp at this;omega) (World.grownBy_alloc w (.cells #[.int .i64 0,.string ⟨#[]⟩] 102) _)
 have hR0:=res_new w
 by_cases he : i = s.size
 ·
  have hd : (bl s).drop i = []:=by rw [List.drop_eq_nil_iff,bl_len];omega
  rw [hd]
  go_enter Tryz.func125,Tryz.ntmps125
  go_wp2_with (go_at_call 123;refine (scan_byte_none b s i _ hS0 (by omega) (by omega)).mono ?_;rintro e w1 ⟨rfl,hg⟩)
  exact ⟨rfl,grown_res hg,rfl⟩
 ·
  have hlt : i < s.size:=by omega
  have hd:=drop_cons s i hlt
  have HB:=aq (scan_byte_some b s i _ hS0 hlt (by omega))
  have HI:=aq hi
  have HA:=aq hArr
  rw [hd]
  rw [hd] at HA
  obtain ⟨x,hx⟩ : ∃ x,s[i] = x:=⟨_,rfl⟩
  rw [hx] at HB HA ⊢
  have HX:=aq hx
  clear hx hd hArr hi hS0
  have HR : Aside0 (∀ w1,(w.alloc (.cells #[.int .i64 0,.string ⟨#[]⟩] 102)).grownBy w1 (some b) → Res w1 w.heap.size):=⟨fun w1 hg => res_kept hR0 hg (by omega)⟩
  clear hR0
  by_cases e1 : x = 86
  ·
   subst e1
   go_enter Tryz.func125,Tryz.ntmps125
   go_wp2_with (go_at_call 123;refine HB.out.mono ?_;rintro e w1 ⟨rfl,hs1,hg1⟩;obtain ⟨c0,c1,f0,f1⟩:=res_cells (HR.out w1 hg1))
   refine ⟨rfl,.agg #[.int .i64 1,.string (⟨#[]⟩)],by simp [results,Tryz.results125,go_sem,c0,c1],?_⟩
   exact ⟨grown_res2 hg1 _ _,rfl,by rw [at_len s i hlt];exact scan_far (scan_far hs1 (p:=⟨w.heap.size,0,none⟩) (by simp;omega) _) (p:=⟨w.heap.size,1,none⟩) (by simp;omega) _⟩
  ·
   by_cases e2 : x = 73
   ·
    subst e2
    go_enter Tryz.func125,Tryz.ntmps125
    go_wp2_with (go_at_call 123;refine HB.out.mono ?_;rintro e w1 ⟨rfl,hs1,hg1⟩;obtain ⟨c0,c1,f0,f1⟩:=res_cells (HR.out w1 hg1))
    refine ⟨rfl,.agg #[.int .i64 2,.string (⟨#[]⟩)],by simp [results,Tryz.results125,go_sem,c0,c1],?_⟩
    exact ⟨grown_res2 hg1 _ _,rfl,by rw [at_len s i hlt];exact scan_far (scan_far hs1 (p:=⟨w.heap.size,0,none⟩) (by simp;omega) _) (p:=⟨w.heap.size,1,none⟩) (by simp;omega) _⟩
   ·
    by_cases e3 : x = 76
    ·
     subst e3
     have hot : oneT classL (76 :: (bl s).drop (i + 1)) = classT classL 3 ((bl s).drop (i + 1)):=rfl
     rw [hot]
     unfold classT
     cases hu : untilL 59 ((bl s).drop (i + 1)) with
     | none =>
      have HC:=aq (fun W hMW hSW => scan_class_not b s (i + 1) W hMW hSW (by omega) hm (fun nm r e => by rw [hu] at e;cases e))
      go_enter Tryz.func125,Tryz.ntmps125
      go_wp2_with (first|(go_at_call 123;refine HB.out.mono ?_;rintro e w1 ⟨rfl,hs1,hg1⟩;obtain ⟨c0,c1,f0,f1⟩:=res_cells (HR.out w1 hg1))|(go_at_call 146;refine (HC.out _ (max_grown hM0 hb hg1) hs1).mono ?_;rintro e w2 ⟨rfl,hg2⟩))
      exact ⟨rfl,grown_res (hg1.trans hg2),rfl⟩
     | some p =>
      obtain ⟨nm,r⟩:=p
      dsimp only
      by_cases hcl : classL nm = true
      ·
       rw [if_pos hcl]
       have HC:=aq (fun W hMW hSW => scan_class b s (i + 1) W hMW hSW (by omega) hm nm r hu hcl)
       go_enter Tryz.func125,Tryz.ntmps125
       go_wp2_with (first|(go_at_call 123;refine HB.out.mono ?_;rintro e w1 ⟨rfl,hs1,hg1⟩;obtain ⟨c0,c1,f0,f1⟩:=res_cells (HR.out w1 hg1))|(go_at_call 146;refine (HC.out _ (max_grown hM0 hb hg1) hs1).mono ?_;rintro e w2 ⟨rfl,hs2,hg2⟩;have hg1:=hg1.trans hg2;obtain ⟨c0,c1,f0,f1⟩:=res_cells (HR.out w2 hg1)))
       refine ⟨rfl,.agg #[.int .i64 3,.string (lb nm)],by simp [results,Tryz.results125,go_sem,c0,c1],?_⟩
       exact ⟨grown_res2 hg1 _ _,rfl,scan_far (scan_far hs2 (p:=⟨w.heap.size,0,none⟩) (by simp;omega) _) (p:=⟨w.heap.size,1,none⟩) (by simp;omega) _⟩
      ·
       rw [if_neg hcl]
       have HC:=aq (fun W hMW hSW => scan_class_not b s (i + 1) W hMW hSW (by omega) hm (fun nm' r' e => by rw [hu] at e;cases e;simpa using hcl))
       go_enter Tryz.func125,Tryz.ntmps125
       go_wp2_with (first|(go_at_call 123;refine HB.out.mono ?_;rintro e w1 ⟨rfl,hs1,hg1⟩;obtain ⟨c0,c1,f0,f1⟩:=res_cells (HR.out w1 hg1))|(go_at_call 146;refine (HC.out _ (max_grown hM0 hb hg1) hs1).mono ?_;rintro e w2 ⟨rfl,hg2⟩))
       exact ⟨rfl,grown_res (hg1.trans hg2),rfl⟩
    ·
     by_cases e4 : x = 91
     ·
      subst e4
      have hot : oneT classL (91 :: (bl s).drop (i + 1)) = flatT classL 2 ((bl s).drop (i + 1)):=rfl
      rw [hot]
      cases hf : flatT classL 2 ((bl s).drop (i + 1)) with
      | none =>
       rw [hf] at HA
       go_enter Tryz.func125,Tryz.ntmps125
       go_wp2_with (first|(go_at_call 123;refine HB.out.mono ?_;rintro e w1 ⟨rfl,hs1,hg1⟩;obtain ⟨c0,c1,f0,f1⟩:=res_cells (HR.out w1 hg1))|(go_at_call 147;refine (HA.out _ hs1 (max_grown hM0 hb hg1) ⟨_,rfl⟩).mono ?_;rintro e w2 ⟨hg2,rfl⟩))
       exact ⟨rfl,grown_res (hg1.trans hg2),rfl⟩
      | some p =>
       obtain ⟨⟨k,c⟩,r⟩:=p
       rw [hf] at HA
       go_enter Tryz.func125,Tryz.ntmps125
       go_wp2_with (first|(go_at_call 123;refine HB.out.mono ?_;rintro e w1 ⟨rfl,hs1,hg1⟩;obtain ⟨c0,c1,f0,f1⟩:=res_cells (HR.out w1 hg1))|(go_at_call 147;refine (HA.out _ hs1 (max_grown hM0 hb hg1) ⟨_,rfl⟩).mono ?_;rintro e w2 ⟨hg2,rfl,hs2⟩;have hg1:=hg1.trans hg2;obtain ⟨c0,c1,f0,f1⟩:=res_cells (HR.out w2 hg1)))
       refine ⟨rfl,.agg #[.int .i64 k,.string (lb c)],by simp [results,Tryz.results125,go_sem,c0,c1],?_⟩
       exact ⟨grown_res2 hg1 _ _,rfl,scan_far (scan_far hs2 (p:=⟨w.heap.size,0,none⟩) (by simp;omega) _) (p:=⟨w.heap.size,1,none⟩) (by simp;omega) _⟩
     ·
      have hot : oneT classL (x :: (bl s).drop (i + 1)) = none:=by
       simp [oneT,flatT,e1,e2,e3,e4]
      rw [hot]
      have q1 : ((x.toNat : Int) == 86) = false:=beq_eq_false_iff_ne.2 (fun e => e1 (byte_of e))
      have q2 : ((x.toNat : Int) == 73) = false:=beq_eq_false_iff_ne.2 (fun e => e2 (byte_of e))
      have q3 : ((x.toNat : Int) == 76) = false:=beq_eq_false_iff_ne.2 (fun e => e3 (byte_of e))
      have q4 : ((x.toNat : Int) == 91) = false:=beq_eq_false_iff_ne.2 (fun e => e4 (byte_of e))
      go_enter Tryz.func125,Tryz.ntmps125
      go_wp2_with (go_at_call 123;refine HB.out.mono ?_;rintro e w1 ⟨rfl,hs1,hg1⟩;obtain ⟨c0,c1,f0,f1⟩:=res_cells (HR.out w1 hg1))
      exact ⟨rfl,grown_res hg1,rfl⟩
theorem one_of (b : Nat) (s : ByteArray) (i : Nat) (w : World) (hM : MaxL w) (hb : 0 ≠ b) (h : Scan w b s i) (hi : i ≤ s.size) (hm : s.size ≤ 1048576) (x : UInt8) (l : List UInt8) (hd : (bl s).drop i = x :: l) (hx : x ≠ 91) :
  Calls Tryz.prog 125 #[.pointer (some ⟨b,0,none⟩)] w (endS b s w (flatT classL 0 (x :: l))):=by
 have:=one_any b s i w hM hb h hi hm (fun W _ _ ⟨l',e⟩ => by rw [hd] at e;cases e;exact absurd rfl hx)
 rw [hd] at this
 unfold oneT at this
 dsimp only at this
 rw [if_neg hx] at this
 exact this
theorem res_two {w : World} {g : Nat} {x y : Value} (u v : Value) (o : Obj) (hlt : g < w.heap.size) (c0 : w.cell? ⟨g, 0, none⟩ = some x) (c1 : w.cell? ⟨g, 1, none⟩ = some y) :
  (((w.setCell ⟨g,0,none⟩ u).setCell ⟨g,1,none⟩ v).alloc o).cell? ⟨g,0,none⟩ = some u ∧ (((w.setCell ⟨g,0,none⟩ u).setCell ⟨g,1,none⟩ v).alloc o).cell? ⟨g,1,none⟩ = some v:=by
 rw [World.cell?_alloc_past _ _ _ (by simpa using hlt),World.cell?_alloc_past _ _ _ (by simpa using hlt)]
 simp [go_sem,c0,c1]
theorem scan_array (b : Nat) (s : ByteArray) (i : Nat) (w : World) (hM : MaxL w) (hb : 0 ≠ b) (h : Scan w b s i) (hi : i ≤ s.size) (hm : s.size ≤ 1048576) :
  Calls Tryz.prog 147 #[.pointer (some ⟨b,0,none⟩)] w (endS b s w (flatT classL 2 ((bl s).drop i))):=by
 have hbl : b < w.heap.size:=(Array.getElem?_eq_some_iff.1 h).1
 have hS0:=scan_alloc h (.cells #[.int .i64 0,.string ⟨#[]⟩] 102)
 have hM0:=max_grown hM (b:=w.heap.size) (by obtain ⟨m,hm⟩:=hM;have:=World.block_lt_of_cell? w _ hm;simp at this;omega) (World.grownBy_alloc w (.cells #[.int .i64 0,.string ⟨#[]⟩] 102) _)
 have hR0:=res_new w
 have hG : (w.alloc (.cells #[.int .i64 0,.string ⟨#[]⟩] 102)).grownBy (w.alloc (.cells #[.int .i64 0,.string ⟨#[]⟩] 102)) (some b):=World.grownBy.refl _ _
 by_cases he : i = s.size
 ·
  have hd : (bl s).drop i = []:=by rw [List.drop_eq_nil_iff,bl_len];omega
  rw [hd]
  go_enter Tryz.func147,Tryz.ntmps147
  go_wp2_with (first|(go_at_call 122;refine (kind_unless_not _ _).mono ?_;rintro e w2 ⟨rfl,rfl⟩)|(go_at_call 124;refine (scan_sees_none b s i _ _ hS0 (by omega) (by omega)).mono ?_;rintro e w1 ⟨rfl,hD1⟩;have hS0:=scan_drawn hS0 hD1;have hG:=hG.trans (grown_of_below hD1.below _)))
  exact ⟨rfl,grown_res hG,rfl⟩
 ·
  have hlt : i < s.size:=by omega
  have hd:=drop_cons s i hlt
  have HB:=aq (fun W c hW => scan_sees_some b s i c W hW hlt (by omega))
  have HI:=aq hi
  have HO0 : ∀ W,MaxL W → Scan W b s i → s[i] ≠ 91 → Calls Tryz.prog 125 #[.pointer (some ⟨b,0,none⟩)] W (endS b s W (flatT classL 0 (s[i] :: (bl s).drop (i + 1)))):=fun W hMW hW hx => one_of b s i W hMW hb hW hi hm s[i] ((bl s).drop (i + 1)) hd hx
  have HR : Aside0 (∀ w1,(w.alloc (.cells #[.int .i64 0,.string ⟨#[]⟩] 102)).grownBy w1 (some b) → Res w1 w.heap.size):=⟨fun w1 hg => res_kept hR0 hg (by omega)⟩
  have HL : Aside0 (∀ w1,(w.alloc (.cells #[.int .i64 0,.string ⟨#[]⟩] 102)).grownBy w1 (some b) → w.heap.size < w1.heap.size):=⟨fun w1 hg => by have:=hg.size;simp at this;omega⟩
  rw [hd]
  obtain ⟨x,hx⟩ : ∃ x,s[i] = x:=⟨_,rfl⟩
  rw [hx] at HB HO0 ⊢
  have HX:=aq hx
  clear hx hd hi hR0
  by_cases e1 : x = 73
  ·
   subst e1
   have HO:=aq (fun W a c => HO0 W a c (by decide))
   have hf : flatT classL 0 (73 :: (bl s).drop (i + 1)) = some ((2,[]),(bl s).drop (i + 1)):=rfl
   have hf2 : flatT classL 2 (73 :: (bl s).drop (i + 1)) = some ((4,[]),(bl s).drop (i + 1)):=rfl
   rw [hf] at HO
   rw [hf2]
   clear HO0
   go_enter Tryz.func147,Tryz.ntmps147
   go_wp2_with (first|(go_at_call 124;refine (HB.out _ _ hS0).mono ?_;rintro e w1 ⟨rfl,hD1⟩;have hS0:=scan_drawn hS0 hD1;have hG:=hG.trans (grown_of_below hD1.below _))|(go_at_call 122;refine (kind_unless _ _).mono ?_;rintro e w2 ⟨rfl,rfl⟩)|(go_at_call 125;refine (HO.out _ (max_grown hM0 hb hG) hS0).mono ?_;rintro e w3 ⟨hg3,rfl,hs3⟩;have hG:=hG.trans hg3;obtain ⟨c0,c1,f0,f1⟩:=res_cells (HR.out w3 hG);have hlt3:=HL.out w3 hG))
   obtain ⟨d0,d1⟩:=res_two (.int .i64 4) (.string (lb [])) (.cells #[.int .i64 4,.string (lb [])] 102) hlt3 c0 c1
   refine ⟨rfl,.agg #[.int .i64 4,.string (lb [])],by simp [results,Tryz.results147,go_sem,d0,d1],?_⟩
   exact ⟨(grown_res2 hG _ _).trans (World.grownBy_alloc _ _ _),rfl,scan_alloc (scan_far (scan_far hs3 (p:=⟨w.heap.size,0,none⟩) (by simp;omega) _) (p:=⟨w.heap.size,1,none⟩) (by simp;omega) _) _⟩
  ·
   by_cases e2 : x = 76
   ·
    subst e2
    have HO1:=fun W a c => HO0 W a c (by decide)
    have hf : flatT classL 0 (76 :: (bl s).drop (i + 1)) = classT classL 3 ((bl s).drop (i + 1)):=rfl
    have hf2 : flatT classL 2 (76 :: (bl s).drop (i + 1)) = classT classL 5 ((bl s).drop (i + 1)):=rfl
    rw [hf] at HO1
    rw [hf2]
    clear HO0 hf hf2
    have hcase : (classT classL 3 ((bl s).drop (i + 1)) = none ∧ classT classL 5 ((bl s).drop (i + 1)) = none) ∨ ∃ c r,classT classL 3 ((bl s).drop (i + 1)) = some ((3,c),r) ∧ classT classL 5 ((bl s).drop (i + 1)) = some ((5,c),r):=by
     unfold classT
     cases untilL 59 ((bl s).drop (i + 1)) with
     | none => exact .inl ⟨rfl,rfl⟩
     | some p =>
      obtain ⟨nm,r⟩:=p
      by_cases hc : classL nm = true
      ·
       exact .inr ⟨nm,r,by simp [hc],by simp [hc]⟩
      ·
       exact .inl ⟨by simp [hc],by simp [hc]⟩
    rcases hcase with ⟨g1,g2⟩|⟨c,r,g1,g2⟩
    ·
     rw [g1] at HO1
     rw [g2]
     have HO:=aq HO1
     clear HO1
     go_enter Tryz.func147,Tryz.ntmps147
     go_wp2_with (first|(go_at_call 124;refine (HB.out _ _ hS0).mono ?_;rintro e w1 ⟨rfl,hD1⟩;have hS0:=scan_drawn hS0 hD1;have hG:=hG.trans (grown_of_below hD1.below _))|(go_at_call 122;refine (kind_unless _ _).mono ?_;rintro e w2 ⟨rfl,rfl⟩)|(go_at_call 125;refine (HO.out _ (max_grown hM0 hb hG) hS0).mono ?_;rintro e w3 ⟨hg3,rfl⟩;have hG:=hG.trans hg3))
     exact ⟨rfl,grown_res hG,rfl⟩
    ·
     rw [g1] at HO1
     rw [g2]
     have HO:=aq HO1
     clear HO1
     go_enter Tryz.func147,Tryz.ntmps147
     go_wp2_with (first|(go_at_call 124;refine (HB.out _ _ hS0).mono ?_;rintro e w1 ⟨rfl,hD1⟩;have hS0:=scan_drawn hS0 hD1;have hG:=hG.trans (grown_of_below hD1.below _))|(go_at_call 122;refine (kind_unless _ _).mono ?_;rintro e w2 ⟨rfl,rfl⟩)|(go_at_call 125;refine (HO.out _ (max_grown hM0 hb hG) hS0).mono ?_;rintro e w3 ⟨hg3,rfl,hs3⟩;have hG:=hG.trans hg3;obtain ⟨c0,c1,f0,f1⟩:=res_cells (HR.out w3 hG);have hlt3:=HL.out w3 hG))
     obtain ⟨d0,d1⟩:=res_two (.int .i64 5) (.string (lb c)) (.cells #[.int .i64 5,.string (lb c)] 102) hlt3 c0 c1
     refine ⟨rfl,.agg #[.int .i64 5,.string (lb c)],by simp [results,Tryz.results147,go_sem,d0,d1],?_⟩
     exact ⟨(grown_res2 hG _ _).trans (World.grownBy_alloc _ _ _),rfl,scan_alloc (scan_far (scan_far hs3 (p:=⟨w.heap.size,0,none⟩) (by simp;omega) _) (p:=⟨w.heap.size,1,none⟩) (by simp;omega) _) _⟩
   ·
    have hf : flatT classL 2 (x :: (bl s).drop (i + 1)) = none:=by simp [flatT,e1,e2]
    rw [hf]
    have q1 : ((x.toNat : Int) == 73) = false:=beq_eq_false_iff_ne.2 (fun e => e1 (byte_of e))
    have q2 : ((x.toNat : Int) == 76) = false:=beq_eq_false_iff_ne.2 (fun e => e2 (byte_of e))
    clear HO0
    go_enter Tryz.func147,Tryz.ntmps147
    go_wp2_with (first|(go_at_call 124;refine (HB.out _ _ hS0).mono ?_;rintro e w1 ⟨rfl,hD1⟩;have hS0:=scan_drawn hS0 hD1;have hG:=hG.trans (grown_of_below hD1.below _))|(go_at_call 122;refine (kind_unless_not _ _).mono ?_;rintro e w2 ⟨rfl,rfl⟩))
    exact ⟨rfl,grown_res hG,rfl⟩
theorem scan_one (b : Nat) (s : ByteArray) (i : Nat) (w : World) (hM : MaxL w) (hb : 0 ≠ b) (h : Scan w b s i) (hi : i ≤ s.size) (hm : s.size ≤ 1048576) :
  Calls Tryz.prog 125 #[.pointer (some ⟨b,0,none⟩)] w (endS b s w (oneT classL ((bl s).drop i))) :=
 one_any b s i w hM hb h hi hm (fun W hW hMW ⟨l,e⟩ => scan_array b s (i + 1) W hMW hb hW (by
  have:=congrArg List.length e
  rw [List.length_drop,bl_len] at this
  simp at this
  omega) hm)
end Go.Proofs.YtaokkkolbifdpaaGreatDoor.Hand
end

section
namespace Go.Proofs.YtaokkkolbifdpaaGreatDoor.Hand
open Go.RowKit Go.Shelf Go.Proofs.YtaokkkolbifdpaaGreatDoorW.PrintWords Go.Proofs.YtaokkkolbifdpaaGreatDoorW.PrintLast Go.Proofs.YtaokkkolbifdpaaGreatDoorW.PrintMore
theorem catch_wrong (pb : Nat) (x e : Int) (older : List PanicEntry) (w : World) (hc : w.cell? ⟨pb, 0, none⟩ = some (.int .i64 x)) (hz : w.frozen? ⟨pb, 0, none⟩ = false) :
  CallsD Tryz.prog 145 #[.pointer (some ⟨pb,0,none⟩)] (.panicking ({ v:=.iface 156 (.agg #[.int .i64 e]),recovered:=false } :: older)) w fun x' u' w' =>
   x' = .returned (.tuple #[]) ∧ u' = .panicking ({ v:=.iface 156 (.agg #[.int .i64 e]),recovered:=true } :: older) ∧ w' = (w.alloc (.cells #[.int .i64 e] 156)).setCell ⟨pb,0,none⟩ (.int .i64 e):=by
 have hq : ∀ (w : World),(binOp .eql 20 (.iface 156 (.agg #[.int .i64 e])) .nilIface).run Tryz.prog w = .ok (.bool false) w:=fun _ => by kernel_rfl
 have hta : ∀ (w : World),(Instr.typeAssert (.iface 156 (.agg #[.int .i64 e])) 20 156 true).run Tryz.prog w = .ok (.tuple #[.agg #[.int .i64 e],.bool true]) w:=fun _ => by kernel_rfl
 have hlt : pb < w.heap.size:=World.block_lt_of_cell? w _ hc
 refine callsD_of_wpS Tryz.func145 rfl fun c₀ cs hu => ?_
 apply wpS_seq
 apply wpS_region
 simp [wpOpsS,go_sem,recoverD,hu,Tryz.ntmps145,Exit.thenS]
 refine wpS_of_wp ?_
 simp only [List.size_toArray,List.length_cons,List.length_nil,Nat.reduceAdd,Nat.reduceSub,Array.replicate_succ,Array.replicate_zero,List.push_toArray,List.append_toArray,List.nil_append,List.cons_append,List.setIfInBounds_toArray,List.set_cons_zero,List.set_cons_succ]
 go_wp2
 cases c₀
 simp_all [bodyPostS,results,Tryz.results145,go_sem]
theorem catch_idle (p : Addr) (w : World) :
  CallsD Tryz.prog 145 #[.pointer (some p)] .returning w fun x' u' w' => x' = .returned (.tuple #[]) ∧ u' = .returning ∧ w' = w:=by
 have hq : ∀ (w : World),(binOp .eql 20 .nilIface .nilIface).run Tryz.prog w = .ok (.bool true) w:=fun _ => by kernel_rfl
 refine callsD_of_wpS Tryz.func145 rfl fun c₀ cs hu => ?_
 apply wpS_seq
 apply wpS_region
 simp [wpOpsS,go_sem,recoverD,hu,Tryz.ntmps145,Exit.thenS]
 refine wpS_of_wp ?_
 go_wp2
 cases c₀
 simp_all [bodyPostS,results,Tryz.results145,go_sem]
theorem caught_ok (g : FuncId) (ls : Array Value) (w : World) (R : World → Prop) (he : ∀ W, (callFunc g ls).run Tryz.prog W = .ok (.enter g ls) W)
  (hC : Calls Tryz.prog g ls (w.alloc (.cells #[.int .i64 0] 36)) fun x w' => x = .returned (.tuple #[]) ∧ R w')
  (hR : ∀ w',R w' → w'.cell? ⟨w.heap.size,0,none⟩ = some (.int .i64 0) ∧ w'.frozen? ⟨w.heap.size,0,none⟩ = false) :
  Calls Tryz.prog 120 #[.func (.func g) #[] ls] w fun x w' => x = .returned (.int .i64 0) ∧ ∃ w1,R w1 ∧ w' = w1.setCell ⟨w.heap.size,0,none⟩ (.int .i64 0):=by
 have hmf : ∀ (fn : Fn) (first cap : Array Value) (w : World),(Instr.makeFunc fn first cap).run Tryz.prog w = .ok (.func fn first cap) w:=fun _ _ _ _ => rfl
 go_enter_defers Tryz.func120,Tryz.ntmps120
 go_wp2
 refine hC.mono ?_
 rintro e w1 ⟨rfl,hr⟩
 obtain ⟨c0,f0⟩:=hR w1 hr
 go_wp2
 refine leaves_cons (f:=145) (args:=#[.pointer (some ⟨w.heap.size,0,none⟩)]) (by simp) (by simp [go_sem]) ?_
 refine (catch_idle ⟨w.heap.size,0,none⟩ _).mono ?_
 rintro e u' w'' ⟨rfl,rfl,rfl⟩
 simp [Leaves,settle,results,Tryz.results120,go_sem,c0]
 exact ⟨w1,hr,rfl⟩
theorem caught_not (g : FuncId) (ls : Array Value) (w : World) (x : Int) (R : World → Prop) (he : ∀ W, (callFunc g ls).run Tryz.prog W = .ok (.enter g ls) W)
  (hC : Calls Tryz.prog g ls (w.alloc (.cells #[.int .i64 0] 36)) fun y w' => y = .panicked (WrongE x) ∧ R w')
  (hR : ∀ w',R w' → w'.cell? ⟨w.heap.size,0,none⟩ = some (.int .i64 0) ∧ w'.frozen? ⟨w.heap.size,0,none⟩ = false) :
  Calls Tryz.prog 120 #[.func (.func g) #[] ls] w fun y w' => y = .returned (.int .i64 x) ∧ ∃ w1,R w1 ∧ w' = (w1.alloc (.cells #[.int .i64 x] 156)).setCell ⟨w.heap.size,0,none⟩ (.int .i64 x):=by
 have hmf : ∀ (fn : Fn) (first cap : Array Value) (w : World),(Instr.makeFunc fn first cap).run Tryz.prog w = .ok (.func fn first cap) w:=fun _ _ _ _ => rfl
 go_enter_defers Tryz.func120,Tryz.ntmps120
 go_wp2
 refine hC.mono ?_
 rintro e w1 ⟨rfl,hr⟩
 obtain ⟨c0,f0⟩:=hR w1 hr
 have hlt:=World.block_lt_of_cell? w1 _ c0
 refine leaves_cons (f:=145) (args:=#[.pointer (some ⟨w.heap.size,0,none⟩)]) (by simp) (by simp [go_sem]) ?_
 refine (catch_wrong w.heap.size 0 x [] _ c0 f0).mono ?_
 rintro e u' w'' ⟨rfl,rfl,rfl⟩
 have c1 : (w1.alloc (.cells #[.int .i64 x] 156)).cell? ⟨w.heap.size,0,none⟩ = some (.int .i64 0):=by rw [World.cell?_alloc_past _ _ _ hlt];exact c0
 simp [Leaves,settle,results,Tryz.results120,go_sem,c1]
 exact ⟨w1,hr,rfl⟩
end Go.Proofs.YtaokkkolbifdpaaGreatDoor.Hand
end

section
namespace Go.Proofs.YtaokkkolbifdpaaGreatDoor.Hand
open Go.RowKit Go.Shelf Go.Proofs.YtaokkkolbifdpaaGreatDoorW.PrintWords Go.Proofs.YtaokkkolbifdpaaGreatDoorW.PrintLast Go.Proofs.YtaokkkolbifdpaaGreatDoorW.PrintMore
def TyAt (w : World) (g : Nat) (t : Ty) : Prop := w.heap[g]? = some (.cells #[.int .i64 t.1, .string (lb t.2)] 102 (0, 0))
theorem ty_cells {w : World} {g : Nat} {t : Ty} (h : TyAt w g t) : w.cell? ⟨g, 0, none⟩ = some (.int .i64 t.1) ∧ w.cell? ⟨g, 1, none⟩ = some (.string (lb t.2)) ∧ w.frozen? ⟨g, 0, none⟩ = false ∧ w.frozen? ⟨g, 1, none⟩ = false := by
 have h0:=blk_cell h 0
 have h1:=blk_cell h 1
 simp only [List.getElem?_toArray,List.getElem?_cons_zero,List.getElem?_cons_succ] at h0 h1
 exact ⟨h0,h1,blk_frozen h 0,blk_frozen h 1⟩
theorem ty_kept {w w' : World} {g : Nat} {r : Option Nat} {t : Ty} (h : TyAt w g t) (hg : w.grownBy w' r) (hne : some g ≠ r) : TyAt w' g t := by
 unfold TyAt at h ⊢
 rw [hg.block g (Array.getElem?_eq_some_iff.1 h).1 hne]
 exact h
theorem ty_set {w : World} {g : Nat} {t : Ty} (h : TyAt w g t) (k : Int) (c : List UInt8) : TyAt ((w.setCell ⟨g, 0, none⟩ (.int .i64 k)).setCell ⟨g, 1, none⟩ (.string (lb c))) g (k, c) := by
 have h2:=blk_set (blk_set h 0 (.int .i64 k)) 1 (.string (lb c))
 simp only [List.setIfInBounds_toArray,List.set_cons_zero,List.set_cons_succ] at h2
 exact h2
theorem max_ne {w : World} (h : MaxL w) : (0 : Nat) ≠ w.heap.size := by
 obtain ⟨m,hm⟩:=h
 have:=World.block_lt_of_cell? w _ hm
 simp at this
 omega
theorem max_alloc {w : World} (h : MaxL w) (o : Obj) : MaxL (w.alloc o) := max_grown h (b := w.heap.size) (max_ne h) (World.grownBy_alloc w o _)
end Go.Proofs.YtaokkkolbifdpaaGreatDoor.Hand
end
