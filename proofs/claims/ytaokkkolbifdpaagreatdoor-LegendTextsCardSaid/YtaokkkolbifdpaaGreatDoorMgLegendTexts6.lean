import Derived.Test.YtaokkkolbifdpaaGreatDoorMgLegendTexts1
import Derived.Test.YtaokkkolbifdpaaGreatDoorMgLegendTexts5
import Derived.Test.YtaokkkolbifdpaaGreatDoorMgLegendTexts4
import Derived.Test.YtaokkkolbifdpaaGreatDoorProg
import Derived.Below
import Derived.Deep.Draws
import Derived.Deep.AppendLies
import Derived.Maps.AppendAt
import Derived.OwnWalk
import Derived.Laws.BytesArg
import Derived.Laws.MakeOwn
import Derived.Laws.OwnMore
import Derived.Deep.OwnRows
import Derived.Tactics
import Derived.Lib.ConvBytes
import Derived.Laws.Slices
import Derived.WalkKit
import Derived.KernelRfl
import Derived.RowKit3
import Derived.Deep.LoopGhost
import Derived.Deep.QuietTactic
import Derived.BigQuiet
import Derived.WideLaws
import Derived.Deep.DeepCutAuto
import Derived.Deep.CutBlock
import Derived.Deep.RegionHeld3
import Derived.Laws.Rows
import Derived.Lib.AppendStr
import Derived.ArgAppend
import Derived.Laws.IdiomCopy
import Derived.OrdersHeld
import Derived.Laws.BitsLemmas
import Derived.RowKit
import Derived.Test.YtaokkkolbifdpaaGreatDoorMgLegendTexts0
import Derived.Test.YtaokkkolbifdpaaGreatDoorMgLegendTexts3
set_option linter.unusedVariables false
set_option linter.unusedSimpArgs false
set_option maxHeartbeats 64000000
set_option maxRecDepth 100000
section
namespace Go.Proofs.YtaokkkolbifdpaaGreatDoor.Q34
open Go.RowKit Go.Proofs.YtaokkkolbifdpaaGreatDoorW
open PrintWords PrintLast PrintMore Go.Proofs.YtaokkkolbifdpaaGreatDoor.Hand
attribute [local go_sem] max2_int min2_int max_two min_two max_three min_three max_four min_four
mutual
def sr29_Right.j0 : Nat → Bool → List (S23) → List (S23) → List (S23) → Option (Bool)
  | 0,_,_,_,_ => none
  | k + 1,x29,x104000,x104001,x104002 => if x29 = true then (some false) else (sr29_Right.l0 k 0 x104000 x104001 x104002)
def sr29_Right.l0 : Nat → Int → List (S23) → List (S23) → List (S23) → Option (Bool)
  | 0,_,_,_,_ => none
  | k + 1,x3,x104000,x104001,x104002 => if x3 < (x104000.length : Int) then (if 0 ≤ x3 then ((sr04_Class.f ((rd_T23 x104000 x3).f0)).bind fun t108 => (if t108 = true then ((sr04_Class.f ((rd_T23 x104000 x3).f1)).bind fun t110 => (sr29_Right.j2 k x3 (!t110) x104000 x104001 x104002)) else (sr29_Right.j2 k x3 true x104000 x104001 x104002))) else (none)) else (sr29_Right.l2 k 0 x104000 x104001 x104002)
def sr29_Right.j2 : Nat → Int → Bool → List (S23) → List (S23) → List (S23) → Option (Bool)
  | 0,_,_,_,_,_ => none
  | k + 1,x3,x54,x104000,x104001,x104002 => if x54 = true then (some false) else (sr29_Right.l1 k x3 0 x104000 x104001 x104002)
def sr29_Right.l1 : Nat → Int → Int → List (S23) → List (S23) → List (S23) → Option (Bool)
  | 0,_,_,_,_,_ => none
  | k + 1,x3,x4,x104000,x104001,x104002 => if x4 < x3 then (if 0 ≤ x4 then (if x4 < (x104000.length : Int) then (if 0 ≤ x3 then (if x3 < (x104000.length : Int) then (if ((rd_T23 x104000 x4).f1).toList = ((rd_T23 x104000 x3).f1).toList then (some false) else (sr29_Right.l1 k x3 (wrap64 (x4 + 1)) x104000 x104001 x104002)) else (none)) else (none)) else (none)) else (none)) else (sr29_Right.l0 k (wrap64 (x3 + 1)) x104000 x104001 x104002)
def sr29_Right.l2 : Nat → Int → List (S23) → List (S23) → List (S23) → Option (Bool)
  | 0,_,_,_,_ => none
  | k + 1,x5,x104000,x104001,x104002 => if x5 < (x104001.length : Int) then (if 0 ≤ x5 then ((sr04_Name.f ((rd_T23 x104001 x5).f0)).bind fun t114 => (if t114 = true then ((sr04_Name.f ((rd_T23 x104001 x5).f1)).bind fun t116 => (sr29_Right.j5 k x5 (!t116) x104000 x104001 x104002)) else (sr29_Right.j5 k x5 true x104000 x104001 x104002))) else (none)) else (sr29_Right.l4 k 0 x104000 x104001 x104002)
def sr29_Right.j5 : Nat → Int → Bool → List (S23) → List (S23) → List (S23) → Option (Bool)
  | 0,_,_,_,_,_ => none
  | k + 1,x5,x97,x104000,x104001,x104002 => if x97 = true then (some false) else (sr29_Right.l3 k x5 0 x104000 x104001 x104002)
def sr29_Right.l3 : Nat → Int → Int → List (S23) → List (S23) → List (S23) → Option (Bool)
  | 0,_,_,_,_,_ => none
  | k + 1,x5,x6,x104000,x104001,x104002 => if x6 < x5 then (if 0 ≤ x6 then (if x6 < (x104001.length : Int) then (if 0 ≤ x5 then (if x5 < (x104001.length : Int) then (if ((rd_T23 x104001 x6).f1).toList = ((rd_T23 x104001 x5).f1).toList then (some false) else (sr29_Right.l3 k x5 (wrap64 (x6 + 1)) x104000 x104001 x104002)) else (none)) else (none)) else (none)) else (none)) else (sr29_Right.l2 k (wrap64 (x5 + 1)) x104000 x104001 x104002)
def sr29_Right.l4 : Nat → Int → List (S23) → List (S23) → List (S23) → Option (Bool)
  | 0,_,_,_,_ => none
  | k + 1,x7,x104000,x104001,x104002 => if x7 < (x104002.length : Int) then (if 0 ≤ x7 then ((sr29_cut.f k ((rd_T23 x104002 x7).f0)).bind fun bt120 => ((sr06_Renamed.f bt120.2 x104000).bind fun t122 => ((sr04_Name.f bt120.1).bind fun t123 => (if t123 = true then ((sr04_Name.f ((rd_T23 x104002 x7).f1)).bind fun t125 => (if t125 = true then (if t122.toList = ([] : List UInt8) then (sr29_Right.j8 k x7 t122 true x104000 x104001 x104002) else ((sr06_Classes.f bt120.2).bind fun t126 => ((sr29_named.f k x104000 t126).bind fun t129 => (sr29_Right.j8 k x7 t122 (!t129) x104000 x104001 x104002)))) else (sr29_Right.j8 k x7 t122 true x104000 x104001 x104002))) else (sr29_Right.j8 k x7 t122 true x104000 x104001 x104002))))) else (none)) else (some true)
def sr29_Right.j8 : Nat → Int → ByteArray → Bool → List (S23) → List (S23) → List (S23) → Option (Bool)
  | 0,_,_,_,_,_,_ => none
  | k + 1,x7,x10,x161,x104000,x104001,x104002 => if x161 = true then (some false) else (sr29_Right.l5 k x7 x10 0 x104000 x104001 x104002)
def sr29_Right.l5 : Nat → Int → ByteArray → Int → List (S23) → List (S23) → List (S23) → Option (Bool)
  | 0,_,_,_,_,_,_ => none
  | k + 1,x7,x10,x11,x104000,x104001,x104002 => if x11 < x7 then (if 0 ≤ x11 then (if x11 < (x104002.length : Int) then ((sr29_cut.f k ((rd_T23 x104002 x11).f0)).bind fun bt131 => (if 0 ≤ x7 then (if x7 < (x104002.length : Int) then (if ((rd_T23 x104002 x11).f1).toList = ((rd_T23 x104002 x7).f1).toList then ((sr06_Renamed.f bt131.2 x104000).bind fun t135 => (if t135.toList = x10.toList then (some false) else (sr29_Right.l5 k x7 x10 (wrap64 (x11 + 1)) x104000 x104001 x104002))) else (sr29_Right.l5 k x7 x10 (wrap64 (x11 + 1)) x104000 x104001 x104002)) else (none)) else (none))) else (none)) else (none)) else (sr29_Right.l4 k (wrap64 (x7 + 1)) x104000 x104001 x104002)
end
def sr29_Right.f (k : Nat) (l0_0 : List (S23)) (l0_1 : List (S23)) (l0_2 : List (S23)) : Option (Bool) := (sr29_rises.f l0_0).bind fun t104 => (if t104 = true then ((sr29_rises.f l0_1).bind fun t105 => (if t105 = true then ((sr29_rises.f l0_2).bind fun t106 => (sr29_Right.j0 k (!t106) l0_0 l0_1 l0_2)) else (sr29_Right.j0 k true l0_0 l0_1 l0_2))) else (sr29_Right.j0 k true l0_0 l0_1 l0_2))
def sr29_Right.T11 : Bool × List (List Nat × List Nat) := (true, [([], []), ([0], [0]), ([], []), ([1, 2], [1, 2]), ([3], [3]), ([4], [4]), ([], []), ([6], [6]), ([], []), ([7, 8], [7, 8]), ([9], [9]), ([10], [10]), ([5, 11], [5, 11])])
def sr29_Right.B11 : List Nat := [0, 1, 0, 7, 15, 31, 0, 64, 0, 448, 960, 1984, 4095]
theorem sr29_Right.tab11 : rtab .any (opsOf Tryz.f29 11) = sr29_Right.T11 := by kernel_rfl
theorem sr29_Right.bits11 : waitsOk sr29_Right.T11.2 sr29_Right.B11 = true := by kernel_rfl
def sr29_Right.T21 : Bool × List (List Nat × List Nat) := (true, [([], []), ([0], [0]), ([], []), ([1, 2], [1, 2]), ([3], [3]), ([4], [4]), ([], []), ([6], [6]), ([], []), ([7, 8], [7, 8]), ([9], [9]), ([10], [10]), ([5, 11], [5, 11])])
def sr29_Right.B21 : List Nat := [0, 1, 0, 7, 15, 31, 0, 64, 0, 448, 960, 1984, 4095]
theorem sr29_Right.tab21 : rtab .any (opsOf Tryz.f29 21) = sr29_Right.T21 := by kernel_rfl
theorem sr29_Right.bits21 : waitsOk sr29_Right.T21.2 sr29_Right.B21 = true := by kernel_rfl
def sr29_Right.T28 : Bool × List (List Nat × List Nat) := (true, [([], []), ([0], [0]), ([1], [1]), ([2, 1], [2]), ([3], [3]), ([4, 3], [3, 4]), ([3], [3]), ([5, 6, 3], [3, 5, 6]), ([7, 3], [3, 7]), ([8, 3], [3, 8]), ([9, 3, 3], [3, 9]), ([10, 3], [3, 10]), ([3, 11], [3, 11]), ([12, 10], [12]), ([13], [13]), ([14, 13], [13, 14]), ([13, 15], [13, 15]), ([16, 13], [16]), ([17], [17]), ([18, 17], [17, 18]), ([17], [17]), ([20, 17, 17], [17, 20]), ([19, 21, 21, 17], [17, 19, 21]), ([22, 17], [17, 22]), ([17, 23], [17, 23])])
def sr29_Right.B28 : List Nat := [0, 1, 3, 7, 15, 31, 15, 127, 255, 511, 1023, 2047, 4095, 8191, 16383, 32767, 65535, 131071, 262143, 524287, 262143, 1310719, 4194303, 8388607, 16777215]
theorem sr29_Right.tab28 : rtab .any (opsOf Tryz.f29 28) = sr29_Right.T28 := by kernel_rfl
theorem sr29_Right.bits28 : waitsOk sr29_Right.T28.2 sr29_Right.B28 = true := by kernel_rfl
def sr29_Right.T34 : Bool × List (List Nat × List Nat) := (true, [([], []), ([0], [0]), ([], []), ([1, 2], [1, 2]), ([3], [3]), ([4], [4]), ([], []), ([6], [6]), ([], []), ([7, 8], [7, 8]), ([9], [9]), ([10], [10]), ([5, 11], [5, 11]), ([12], [12]), ([13], [13]), ([13], [13]), ([15, 13], [13, 15]), ([14, 16, 13, 13], [13, 14, 16]), ([13], [13]), ([17, 18, 13], [13, 17, 18]), ([13, 19], [13, 19])])
def sr29_Right.B34 : List Nat := [0, 1, 0, 7, 15, 31, 0, 64, 0, 448, 960, 1984, 4095, 8191, 16383, 16383, 49151, 131071, 16383, 524287, 1048575]
theorem sr29_Right.tab34 : rtab .any (opsOf Tryz.f29 34) = sr29_Right.T34 := by kernel_rfl
theorem sr29_Right.bits34 : waitsOk sr29_Right.T34.2 sr29_Right.B34 = true := by kernel_rfl
theorem sr29_Right.calls (k : Nat) (A0_0 : Option Addr) (c0_0 : Nat) (l0_0 : List (S23)) (A0_1 : Option Addr) (c0_1 : Nat) (l0_1 : List (S23)) (A0_2 : Option Addr) (c0_2 : Nat) (l0_2 : List (S23)) (r : Bool) (w : World) (hr0_0 : Kd.C k23 w A0_0 l0_0.length l0_0) (hc0_0 : l0_0.length ≤ c0_0) (hr0_1 : Kd.C k23 w A0_1 l0_1.length l0_1) (hc0_1 : l0_1.length ≤ c0_1) (hr0_2 : Kd.C k23 w A0_2 l0_2.length l0_2) (hc0_2 : l0_2.length ≤ c0_2) (h : sr29_Right.f k l0_0 l0_1 l0_2 = some r) :
    Calls Tryz.prog 29 #[.agg #[.slice A0_0 l0_0.length c0_0,.slice A0_1 l0_1.length c0_1,.slice A0_2 l0_2.length c0_2]] w fun e w' => e = .returned (.bool r) ∧ Below w.heap.size w w':=by
 have hu34:=Tryz.underlying34
 have HR0_0:=aq hr0_0
 have HC0_0:=aq hc0_0
 clear hr0_0 hc0_0
 have HR0_1:=aq hr0_1
 have HC0_1:=aq hc0_1
 clear hr0_1 hc0_1
 have HR0_2:=aq hr0_2
 have HC0_2:=aq hc0_2
 clear hr0_2 hc0_2
 have HB:=aq (Below.refl w.heap.size w)
 have H : ((sr29_rises.f l0_0).bind fun t104 => (if t104 = true then ((sr29_rises.f l0_1).bind fun t105 => (if t105 = true then ((sr29_rises.f l0_2).bind fun t106 => (sr29_Right.j0 k (!t106) l0_0 l0_1 l0_2)) else (sr29_Right.j0 k true l0_0 l0_1 l0_2))) else (sr29_Right.j0 k true l0_0 l0_1 l0_2))) = some r:=h
 clear h
 have HC2:=aq H
 clear H
 go_enter Tryz.func29,Tryz.ntmps29
 go_upto_region 1 with (first|((with_reducible refine gate_dst (N:=1) rfl ?_);refine box_event rfl (N:=1) rfl (cs:=#[.slice A0_0 l0_0.length c0_0,.slice A0_1 l0_1.length c0_1,.slice A0_2 l0_2.length c0_2]) (t:=34) gS ?_;intro gb103 hg w3 hbox hb;have BK103:=aq (hbox);have GE103:=aq ((GN hg : w.heap.size ≤ gb103));replace HB:=aq (below_step bH hb);clear hb hbox hg))
 (try simp only [Act.put,List.setIfInBounds_toArray,List.set_cons_zero,List.set_cons_succ])
 go_cut [29] (fun v29 wc => ∃ (kq : Nat) (x29_1 : Bool),v29 = .bool x29_1 ∧ Aside0 (sr29_Right.j0 kq x29_1 l0_0 l0_1 l0_2 = some r) ∧ Aside0 (kq ≤ k) ∧ Aside0 (wc.heap[gb103]? = some (.cells #[(.slice A0_0 l0_0.length c0_0),(.slice A0_1 l0_1.length c0_1),(.slice A0_2 l0_2.length c0_2)] 34 (0,0))) ∧ Aside0 (Below w.heap.size w wc))
 case first =>
  have H:=HC2.out
  clear HC2
  replace H:=Option.bind_eq_some_iff.mp H
  obtain ⟨t104,A40,H⟩:=H
  have A4:=aq A40
  clear A40
  by_cases c5 : t104 = true
  rotate_left
  · replace c5:=Bool.eq_false_iff.mpr c5
    subst c5
    have H1 : (sr29_Right.j0 k true l0_0 l0_1 l0_2) = some r:=by rw [if_neg (show ¬ (false = true) by decide)] at H;exact H
    clear H
    have H:=H1
    clear H1
    have H':=aq H
    clear H
    have hcz19_0 : w3.cell? ⟨gb103,0,none⟩ = some (.slice A0_0 l0_0.length c0_0):=(blk_cell BK103.out 0).trans rfl
    have hcz19_1 : w3.cell? ⟨gb103,1,none⟩ = some (.slice A0_1 l0_1.length c0_1):=(blk_cell BK103.out 1).trans rfl
    have hcz19_2 : w3.cell? ⟨gb103,2,none⟩ = some (.slice A0_2 l0_2.length c0_2):=(blk_cell BK103.out 2).trans rfl
    have hfz19_0:=blk_frozen BK103.out 0
    have hfz19_1:=blk_frozen BK103.out 1
    have hfz19_2:=blk_frozen BK103.out 2
    go_wp2_with (first|((with_reducible refine gate_callee (f:=57) rfl ?_);refine goesL_ (some 16) rfl rfl Tryz.func57 (by kernel_rfl) rfl #[.slice A0_0 l0_0.length c0_0] rfl eA ?_;(with_reducible refine (sr29_rises.calls _ _ l0_0 false _ ?side1 ?side2 A4.out).mono ?_);(case side1 => exact CU HR0_0);(case side2 => exact HC0_0.out);rintro e w20 ⟨rfl,hb⟩;refine ⟨_,rfl,?_⟩;replace BK103:=KN BK103 hb;replace HB:=aq (below_step bH hb);(try clear hb);(try clear hb2);(try clear hk);(try clear hi)))
    go_meet
    case rel => exact ⟨_,(true),eS,H',⟨by first|omega|exact Nat.le_refl _⟩,⟨KU BK103.out⟩,⟨bH⟩⟩
  subst c5
  have H1 : ((sr29_rises.f l0_1).bind fun t105 => (if t105 = true then ((sr29_rises.f l0_2).bind fun t106 => (sr29_Right.j0 k (!t106) l0_0 l0_1 l0_2)) else (sr29_Right.j0 k true l0_0 l0_1 l0_2))) = some r:=by rw [if_pos rfl] at H;exact H
  clear H
  have H:=H1
  clear H1
  replace H:=Option.bind_eq_some_iff.mp H
  obtain ⟨t105,A60,H⟩:=H
  have A6:=aq A60
  clear A60
  by_cases c7 : t105 = true
  rotate_left
  · replace c7:=Bool.eq_false_iff.mpr c7
    subst c7
    have H1 : (sr29_Right.j0 k true l0_0 l0_1 l0_2) = some r:=by rw [if_neg (show ¬ (false = true) by decide)] at H;exact H
    clear H
    have H:=H1
    clear H1
    have H':=aq H
    clear H
    have hcz15_0 : w3.cell? ⟨gb103,0,none⟩ = some (.slice A0_0 l0_0.length c0_0):=(blk_cell BK103.out 0).trans rfl
    have hcz15_1 : w3.cell? ⟨gb103,1,none⟩ = some (.slice A0_1 l0_1.length c0_1):=(blk_cell BK103.out 1).trans rfl
    have hcz15_2 : w3.cell? ⟨gb103,2,none⟩ = some (.slice A0_2 l0_2.length c0_2):=(blk_cell BK103.out 2).trans rfl
    have hfz15_0:=blk_frozen BK103.out 0
    have hfz15_1:=blk_frozen BK103.out 1
    have hfz15_2:=blk_frozen BK103.out 2
    go_wp2_with (first|((with_reducible refine gate_callee (f:=57) rfl ?_);refine goesL_ (some 16) rfl rfl Tryz.func57 (by kernel_rfl) rfl #[.slice A0_0 l0_0.length c0_0] rfl eA ?_;(with_reducible refine (sr29_rises.calls _ _ l0_0 true _ ?side1 ?side2 A4.out).mono ?_);(case side1 => exact CU HR0_0);(case side2 => exact HC0_0.out);rintro e w16 ⟨rfl,hb⟩;refine ⟨_,rfl,?_⟩;replace BK103:=KN BK103 hb;replace HB:=aq (below_step bH hb);(try clear hb);(try clear hb2);(try clear hk);(try clear hi);have hcz17_0 : w16.cell? ⟨gb103,0,none⟩ = some (.slice A0_0 l0_0.length c0_0):=(blk_cell BK103.out 0).trans rfl;have hcz17_1 : w16.cell? ⟨gb103,1,none⟩ = some (.slice A0_1 l0_1.length c0_1):=(blk_cell BK103.out 1).trans rfl;have hcz17_2 : w16.cell? ⟨gb103,2,none⟩ = some (.slice A0_2 l0_2.length c0_2):=(blk_cell BK103.out 2).trans rfl;have hfz17_0:=blk_frozen BK103.out 0;have hfz17_1:=blk_frozen BK103.out 1;have hfz17_2:=blk_frozen BK103.out 2)|(go_at_call 57;(with_reducible refine (sr29_rises.calls _ _ l0_1 false _ ?side1 ?side2 A6.out).mono ?_);(case side1 => exact CU HR0_1);(case side2 => exact HC0_1.out);rintro e w18 ⟨rfl,hb⟩;replace BK103:=KN BK103 hb;replace HB:=aq (below_step bH hb);(try clear hb);(try clear hb2);(try clear hk);(try clear hi)))
    go_meet
    case rel => exact ⟨_,(true),eS,H',⟨by first|omega|exact Nat.le_refl _⟩,⟨KU BK103.out⟩,⟨bH⟩⟩
  subst c7
  have H1 : ((sr29_rises.f l0_2).bind fun t106 => (sr29_Right.j0 k (!t106) l0_0 l0_1 l0_2)) = some r:=by rw [if_pos rfl] at H;exact H
  clear H
  have H:=H1
  clear H1
  replace H:=Option.bind_eq_some_iff.mp H
  obtain ⟨t106,A80,H⟩:=H
  have A8:=aq A80
  clear A80
  have H':=aq H
  clear H
  have hcz9_0 : w3.cell? ⟨gb103,0,none⟩ = some (.slice A0_0 l0_0.length c0_0):=(blk_cell BK103.out 0).trans rfl
  have hcz9_1 : w3.cell? ⟨gb103,1,none⟩ = some (.slice A0_1 l0_1.length c0_1):=(blk_cell BK103.out 1).trans rfl
  have hcz9_2 : w3.cell? ⟨gb103,2,none⟩ = some (.slice A0_2 l0_2.length c0_2):=(blk_cell BK103.out 2).trans rfl
  have hfz9_0:=blk_frozen BK103.out 0
  have hfz9_1:=blk_frozen BK103.out 1
  have hfz9_2:=blk_frozen BK103.out 2
  go_wp2_with (first|((with_reducible refine gate_callee (f:=57) rfl ?_);refine goesL_ (some 16) rfl rfl Tryz.func57 (by kernel_rfl) rfl #[.slice A0_0 l0_0.length c0_0] rfl eA ?_;(with_reducible refine (sr29_rises.calls _ _ l0_0 true _ ?side1 ?side2 A4.out).mono ?_);(case side1 => exact CU HR0_0);(case side2 => exact HC0_0.out);rintro e w10 ⟨rfl,hb⟩;refine ⟨_,rfl,?_⟩;replace BK103:=KN BK103 hb;replace HB:=aq (below_step bH hb);(try clear hb);(try clear hb2);(try clear hk);(try clear hi);have hcz11_0 : w10.cell? ⟨gb103,0,none⟩ = some (.slice A0_0 l0_0.length c0_0):=(blk_cell BK103.out 0).trans rfl;have hcz11_1 : w10.cell? ⟨gb103,1,none⟩ = some (.slice A0_1 l0_1.length c0_1):=(blk_cell BK103.out 1).trans rfl;have hcz11_2 : w10.cell? ⟨gb103,2,none⟩ = some (.slice A0_2 l0_2.length c0_2):=(blk_cell BK103.out 2).trans rfl;have hfz11_0:=blk_frozen BK103.out 0;have hfz11_1:=blk_frozen BK103.out 1;have hfz11_2:=blk_frozen BK103.out 2)|(go_at_call 57;(with_reducible refine (sr29_rises.calls _ _ l0_1 true _ ?side1 ?side2 A6.out).mono ?_);(case side1 => exact CU HR0_1);(case side2 => exact HC0_1.out);rintro e w12 ⟨rfl,hb⟩;replace BK103:=KN BK103 hb;replace HB:=aq (below_step bH hb);(try clear hb);(try clear hb2);(try clear hk);(try clear hi);have hcz13_0 : w12.cell? ⟨gb103,0,none⟩ = some (.slice A0_0 l0_0.length c0_0):=(blk_cell BK103.out 0).trans rfl;have hcz13_1 : w12.cell? ⟨gb103,1,none⟩ = some (.slice A0_1 l0_1.length c0_1):=(blk_cell BK103.out 1).trans rfl;have hcz13_2 : w12.cell? ⟨gb103,2,none⟩ = some (.slice A0_2 l0_2.length c0_2):=(blk_cell BK103.out 2).trans rfl;have hfz13_0:=blk_frozen BK103.out 0;have hfz13_1:=blk_frozen BK103.out 1;have hfz13_2:=blk_frozen BK103.out 2)|(go_at_call 57;(with_reducible refine (sr29_rises.calls _ _ l0_2 t106 _ ?side1 ?side2 A8.out).mono ?_);(case side1 => exact CU HR0_2);(case side2 => exact HC0_2.out);rintro e w14 ⟨rfl,hb⟩;replace BK103:=KN BK103 hb;replace HB:=aq (below_step bH hb);(try clear hb);(try clear hb2);(try clear hk);(try clear hi)))
  go_meet
  case rel => exact ⟨_,(!t106),eS,H',⟨by first|omega|exact Nat.le_refl _⟩,⟨KU BK103.out⟩,⟨bH⟩⟩
 case rest =>
 clear HC2
 obtain ⟨kq,x29_1,rfl,HA,HJ1,BK103,HB⟩:=hcut
 cases kq with
 | zero => exact absurd HA.out (by simp [sr29_Right.j0])
 | succ kj1 =>
 have H:=HA.out
 clear HA
 simp only [sr29_Right.j0] at H
 by_cases c21 : x29_1 = true
 · subst c21
   have H1 : (some false) = some r:=by rw [if_pos rfl] at H;exact H
   clear H
   have H:=H1
   clear H1
   obtain rfl:=Option.some.inj H
   go_wp2
   go_ret
   exact ⟨eR,bH⟩
 replace c21:=Bool.eq_false_iff.mpr c21
 subst c21
 have H1 : (sr29_Right.l0 kj1 0 l0_0 l0_1 l0_2) = some r:=by rw [if_neg (show ¬ (false = true) by decide)] at H;exact H
 clear H
 have H:=H1
 clear H1
 have H':=aq H
 clear H
 go_wp2
 go_loopg [3] kj1 (fun kq v3 w' => ∃ (x3_2 : Int),v3 = .int .i64 x3_2 ∧ Aside0 (sr29_Right.l0 kq x3_2 l0_0 l0_1 l0_2 = some r) ∧ Aside0 (kq ≤ kj1) ∧ Aside0 (w'.heap[gb103]? = some (.cells #[(.slice A0_0 l0_0.length c0_0),(.slice A0_1 l0_1.length c0_1),(.slice A0_2 l0_2.length c0_2)] 34 (0,0))) ∧ Aside0 (Below w.heap.size w w'))
 case atStart => exact ⟨(0),eS,H',⟨Nat.le_refl _⟩,⟨KU BK103.out⟩,⟨bH⟩⟩
 case round =>
 clear H'
 try clear c21
 obtain ⟨x3_2,rfl,HA,HK2,BK103,HB⟩:=hrel
 cases gk with
 | zero => exact absurd HA.out (by simp [sr29_Right.l0])
 | succ k2 =>
 have H:=HA.out
 clear HA
 simp only [sr29_Right.l0] at H
 by_cases c22 : x3_2 < (l0_0.length : Int)
 · rw [if_pos c22] at H
   have c22b0 : decide (x3_2 < (l0_0.length : Int)) = true:=decide_eq_true c22
   clear c22
   have HC23:=aq H
   clear H
   have hcz24_0 : wr.cell? ⟨gb103,0,none⟩ = some (.slice A0_0 l0_0.length c0_0):=(blk_cell BK103.out 0).trans rfl
   have hcz24_1 : wr.cell? ⟨gb103,1,none⟩ = some (.slice A0_1 l0_1.length c0_1):=(blk_cell BK103.out 1).trans rfl
   have hcz24_2 : wr.cell? ⟨gb103,2,none⟩ = some (.slice A0_2 l0_2.length c0_2):=(blk_cell BK103.out 2).trans rfl
   have hfz24_0:=blk_frozen BK103.out 0
   have hfz24_1:=blk_frozen BK103.out 1
   have hfz24_2:=blk_frozen BK103.out 2
   go_upto_region 6 with (fail)
   go_cut [54] (fun v54 wc => ∃ (kq : Nat) (x54_22 : Bool),v54 = .bool x54_22 ∧ Aside0 (sr29_Right.j2 kq x3_2 x54_22 l0_0 l0_1 l0_2 = some r) ∧ Aside0 (kq ≤ k2) ∧ Aside0 (wc.heap[gb103]? = some (.cells #[(.slice A0_0 l0_0.length c0_0),(.slice A0_1 l0_1.length c0_1),(.slice A0_2 l0_2.length c0_2)] 34 (0,0))) ∧ Aside0 (Below w.heap.size w wc))
   case first =>
    have H:=HC23.out
    clear HC23
    by_cases c25 : 0 ≤ x3_2
    rotate_left
    · rw [if_neg c25] at H
      exact absurd H (by simp)
    rw [if_pos c25] at H
    have c25b0 : decide (0 ≤ x3_2) = true:=decide_eq_true c25
    clear c25
    (first|rw [c25b0]|rw [c25b1]|(simp only [i64_w,i32_w];rw [c25b0])|skip)
    replace H:=Option.bind_eq_some_iff.mp H
    obtain ⟨t108,A260,H⟩:=H
    have A26:=aq A260
    clear A260
    by_cases c27 : t108 = true
    rotate_left
    · replace c27:=Bool.eq_false_iff.mpr c27
      subst c27
      have H1 : (sr29_Right.j2 k2 x3_2 true l0_0 l0_1 l0_2) = some r:=by rw [if_neg (show ¬ (false = true) by decide)] at H;exact H
      clear H
      have H:=H1
      clear H1
      have H':=aq H
      clear H
      have hcz30_0 : wr.cell? ⟨gb103,0,none⟩ = some (.slice A0_0 l0_0.length c0_0):=(blk_cell BK103.out 0).trans rfl
      have hcz30_1 : wr.cell? ⟨gb103,1,none⟩ = some (.slice A0_1 l0_1.length c0_1):=(blk_cell BK103.out 1).trans rfl
      have hcz30_2 : wr.cell? ⟨gb103,2,none⟩ = some (.slice A0_2 l0_2.length c0_2):=(blk_cell BK103.out 2).trans rfl
      have hfz30_0:=blk_frozen BK103.out 0
      have hfz30_1:=blk_frozen BK103.out 1
      have hfz30_2:=blk_frozen BK103.out 2
      have p107 : 0 ≤ (x3_2 : Int):=of_decide_eq_true aS
      have q107 : x3_2 < (l0_0.length : Int):=of_decide_eq_true aS
      obtain ⟨ad107,e107,hx107_0,hx107_1⟩:=at_T23 HR0_0.out x3_2 p107 q107
      cases e107
      replace hx107_0:=(HB.out.cell (World.block_lt_of_cell? w _ hx107_0)).trans hx107_0
      replace hx107_1:=(HB.out.cell (World.block_lt_of_cell? w _ hx107_1)).trans hx107_1
      replace p107:=eq_true p107
      replace q107:=eq_true q107
      go_wp2_with (first|((with_reducible refine gate_callee (f:=58) rfl ?_);refine goesL_ (some 43) rfl rfl Tryz.func58 (by kernel_rfl) rfl #[.string ((rd_T23 l0_0 x3_2).f0)] rfl eA ?_;(with_reducible refine (sr04_Class.calls ((rd_T23 l0_0 x3_2).f0) false _ A26.out).mono ?_);rintro e w' ⟨rfl,⟨nd,rfl⟩⟩;refine ⟨_,rfl,?_⟩))
      go_meet
      case rel => exact ⟨_,(true),eS,H',⟨by have:=HJ1.out;have:=HK2.out;first|omega|exact Nat.le_refl _⟩,⟨KU BK103.out⟩,⟨bH⟩⟩
    subst c27
    have H1 : ((sr04_Class.f ((rd_T23 l0_0 x3_2).f1)).bind fun t110 => (sr29_Right.j2 k2 x3_2 (!t110) l0_0 l0_1 l0_2)) = some r:=by rw [if_pos rfl] at H;exact H
    clear H
    have H:=H1
    clear H1
    replace H:=Option.bind_eq_some_iff.mp H
    obtain ⟨t110,A280,H⟩:=H
    have A28:=aq A280
    clear A280
    have H':=aq H
    clear H
    have hcz29_0 : wr.cell? ⟨gb103,0,none⟩ = some (.slice A0_0 l0_0.length c0_0):=(blk_cell BK103.out 0).trans rfl
    have hcz29_1 : wr.cell? ⟨gb103,1,none⟩ = some (.slice A0_1 l0_1.length c0_1):=(blk_cell BK103.out 1).trans rfl
    have hcz29_2 : wr.cell? ⟨gb103,2,none⟩ = some (.slice A0_2 l0_2.length c0_2):=(blk_cell BK103.out 2).trans rfl
    have hfz29_0:=blk_frozen BK103.out 0
    have hfz29_1:=blk_frozen BK103.out 1
    have hfz29_2:=blk_frozen BK103.out 2
    have p107 : 0 ≤ (x3_2 : Int):=of_decide_eq_true aS
    have q107 : x3_2 < (l0_0.length : Int):=of_decide_eq_true aS
    obtain ⟨ad107,e107,hx107_0,hx107_1⟩:=at_T23 HR0_0.out x3_2 p107 q107
    cases e107
    replace hx107_0:=(HB.out.cell (World.block_lt_of_cell? w _ hx107_0)).trans hx107_0
    replace hx107_1:=(HB.out.cell (World.block_lt_of_cell? w _ hx107_1)).trans hx107_1
    replace p107:=eq_true p107
    replace q107:=eq_true q107
    go_wp2_with (first|((with_reducible refine gate_callee (f:=58) rfl ?_);refine goesL_ (some 43) rfl rfl Tryz.func58 (by kernel_rfl) rfl #[.string ((rd_T23 l0_0 x3_2).f0)] rfl eA ?_;(with_reducible refine (sr04_Class.calls ((rd_T23 l0_0 x3_2).f0) true _ A26.out).mono ?_);rintro e w' ⟨rfl,⟨nd,rfl⟩⟩;refine ⟨_,rfl,?_⟩;have p109 : 0 ≤ (x3_2 : Int):=of_decide_eq_true aS;have q109 : x3_2 < (l0_0.length : Int):=of_decide_eq_true aS;obtain ⟨ad109,e109,hx109_0,hx109_1⟩:=at_T23 HR0_0.out x3_2 p109 q109;obtain rfl : ad107 = ad109:=(by injection e109);replace hx109_0:=(HB.out.cell (World.block_lt_of_cell? w _ hx109_0)).trans hx109_0;replace hx109_1:=(HB.out.cell (World.block_lt_of_cell? w _ hx109_1)).trans hx109_1;replace p109:=eq_true p109;replace q109:=eq_true q109)|(go_at_call 58;(with_reducible refine (sr04_Class.calls ((rd_T23 l0_0 x3_2).f1) t110 _ A28.out).mono ?_);rintro e w' ⟨rfl,⟨nd,rfl⟩⟩))
    go_meet
    case rel => exact ⟨_,(!t110),eS,H',⟨by have:=HJ1.out;have:=HK2.out;first|omega|exact Nat.le_refl _⟩,⟨KU BK103.out⟩,⟨bH⟩⟩
   case rest =>
   clear HC23
   (try clear c21);(try clear c22);(try clear c22b0);(try clear hcz24_0);(try clear hcz24_1);(try clear hcz24_2);(try clear hfz24_0);(try clear hfz24_1);(try clear hfz24_2)
   obtain ⟨kq,x54_22,rfl,HA,HJ22,BK103,HB⟩:=hcut
   cases kq with
   | zero => exact absurd HA.out (by simp [sr29_Right.j2])
   | succ kj22 =>
   have H:=HA.out
   clear HA
   simp only [sr29_Right.j2] at H
   by_cases c31 : x54_22 = true
   · subst c31
     have H1 : (some false) = some r:=by rw [if_pos rfl] at H;exact H
     clear H
     have H:=H1
     clear H1
     obtain rfl:=Option.some.inj H
     go_wp2
     go_ret
     exact ⟨eR,bH⟩
   replace c31:=Bool.eq_false_iff.mpr c31
   subst c31
   have H1 : (sr29_Right.l1 kj22 x3_2 0 l0_0 l0_1 l0_2) = some r:=by rw [if_neg (show ¬ (false = true) by decide)] at H;exact H
   clear H
   have H:=H1
   clear H1
   have H':=aq H
   clear H
   go_wp2
   go_loopg [4] kj22 (fun kq v4 w' => ∃ (x4_4 : Int),v4 = .int .i64 x4_4 ∧ Aside0 (sr29_Right.l1 kq x3_2 x4_4 l0_0 l0_1 l0_2 = some r) ∧ Aside0 (kq ≤ kj22) ∧ Aside0 (w'.heap[gb103]? = some (.cells #[(.slice A0_0 l0_0.length c0_0),(.slice A0_1 l0_1.length c0_1),(.slice A0_2 l0_2.length c0_2)] 34 (0,0))) ∧ Aside0 (Below w.heap.size w w'))
   case atStart => exact ⟨(0),eS,H',⟨Nat.le_refl _⟩,⟨KU BK103.out⟩,⟨bH⟩⟩
   case round =>
   clear H'
   (try clear c21);(try clear c22);(try clear c22b0);(try clear c31);(try clear hcz24_0);(try clear hcz24_1);(try clear hcz24_2);(try clear hfz24_0);(try clear hfz24_1);(try clear hfz24_2)
   obtain ⟨x4_4,rfl,HA,HK4,BK103,HB⟩:=hrel
   cases gk with
   | zero => exact absurd HA.out (by simp [sr29_Right.l1])
   | succ k4 =>
   have H:=HA.out
   clear HA
   simp only [sr29_Right.l1] at H
   by_cases c32 : x4_4 < x3_2
   rotate_left
   · rw [if_neg c32] at H
     have c32b0 : decide (x4_4 < x3_2) = false:=decide_eq_false c32
     clear c32
     have H':=aq H
     clear H
     go_wp2
     go_roundg k4
     case measure => have:=HJ1.out;have:=HK2.out;have:=HJ22.out;have:=HK4.out;omega
     case rel => exact ⟨(wrap64 (x3_2 + 1)),eS,H',⟨by have:=HJ1.out;have:=HK2.out;have:=HJ22.out;have:=HK4.out;omega⟩,⟨KU BK103.out⟩,⟨bH⟩⟩
   rw [if_pos c32] at H
   have c32b0 : decide (x4_4 < x3_2) = true:=decide_eq_true c32
   clear c32
   by_cases c33 : 0 ≤ x4_4
   rotate_left
   · rw [if_neg c33] at H
     exact absurd H (by simp)
   rw [if_pos c33] at H
   have c33b0 : decide (0 ≤ x4_4) = true:=decide_eq_true c33
   clear c33
   by_cases c34 : x4_4 < (l0_0.length : Int)
   rotate_left
   · rw [if_neg c34] at H
     exact absurd H (by simp)
   rw [if_pos c34] at H
   have c34b0 : decide (x4_4 < (l0_0.length : Int)) = true:=decide_eq_true c34
   clear c34
   by_cases c35 : 0 ≤ x3_2
   rotate_left
   · rw [if_neg c35] at H
     exact absurd H (by simp)
   rw [if_pos c35] at H
   have c35b0 : decide (0 ≤ x3_2) = true:=decide_eq_true c35
   clear c35
   by_cases c36 : x3_2 < (l0_0.length : Int)
   rotate_left
   · rw [if_neg c36] at H
     exact absurd H (by simp)
   rw [if_pos c36] at H
   have c36b0 : decide (x3_2 < (l0_0.length : Int)) = true:=decide_eq_true c36
   clear c36
   by_cases c37 : ((rd_T23 l0_0 x4_4).f1).toList = ((rd_T23 l0_0 x3_2).f1).toList
   · rw [if_pos c37] at H
     have c37b0 : (((rd_T23 l0_0 x4_4).f1).toList == ((rd_T23 l0_0 x3_2).f1).toList) = true:=beq_iff_eq.mpr c37
     have c37b1 : (((rd_T23 l0_0 x4_4).f1).toList != ((rd_T23 l0_0 x3_2).f1).toList) = false:=bne_eq_false_iff_eq.mpr c37
     clear c37
     obtain rfl:=Option.some.inj H
     try go_wp2
     replace BK103:=aq (blk_drew BK103.out)
     replace HB:=aq (below_drew1 HB.out)
     have p111 : 0 ≤ (x4_4 : Int):=of_decide_eq_true aS
     have q111 : x4_4 < (l0_0.length : Int):=of_decide_eq_true aS
     obtain ⟨ad111,e111,hx111_0,hx111_1⟩:=at_T23 HR0_0.out x4_4 p111 q111
     have hw111_1:=hx111_1
     have hw111_0:=hx111_0
     cases e111
     replace hx111_0:=(HB.out.cell (World.block_lt_of_cell? w _ hx111_0)).trans hx111_0
     replace hx111_1:=(HB.out.cell (World.block_lt_of_cell? w _ hx111_1)).trans hx111_1
     replace p111:=eq_true p111
     replace q111:=eq_true q111
     have p112 : 0 ≤ (x3_2 : Int):=of_decide_eq_true aS
     have q112 : x3_2 < (l0_0.length : Int):=of_decide_eq_true aS
     obtain ⟨ad112,e112,hx112_0,hx112_1⟩:=at_T23 HR0_0.out x3_2 p112 q112
     have hw112_1:=hx112_1
     have hw112_0:=hx112_0
     obtain rfl : ad111 = ad112:=(by injection e112)
     replace hx112_0:=(HB.out.cell (World.block_lt_of_cell? w _ hx112_0)).trans hx112_0
     replace hx112_1:=(HB.out.cell (World.block_lt_of_cell? w _ hx112_1)).trans hx112_1
     replace p112:=eq_true p112
     replace q112:=eq_true q112
     refine start_ (n:=13) (S:=fun w' => w'.cell? ⟨gb103,0,none⟩ = some (.slice (some ad111) l0_0.length c0_0) ∧ w'.cell? ⟨gb103,1,none⟩ = some (.slice A0_1 l0_1.length c0_1) ∧ w'.cell? ⟨gb103,2,none⟩ = some (.slice A0_2 l0_2.length c0_2) ∧ w'.cell? (ad111.add ((x4_4).toNat * 2)) = some (.string ((rd_T23 l0_0 x4_4).f0)) ∧ w'.cell? ⟨(ad111.add ((x4_4).toNat * 2)).block,(ad111.add ((x4_4).toNat * 2)).off + 1,none⟩ = some (.string ((rd_T23 l0_0 x4_4).f1)) ∧ w'.cell? (ad111.add ((x3_2).toNat * 2)) = some (.string ((rd_T23 l0_0 x3_2).f0)) ∧ w'.cell? ⟨(ad111.add ((x3_2).toNat * 2)).block,(ad111.add ((x3_2).toNat * 2)).off + 1,none⟩ = some (.string ((rd_T23 l0_0 x3_2).f1))) (ds:=[]) #[false,false,false,false,false,false,false,false,false,false,false,false,false] (by kernel_rfl) rfl rfl ⟨(blk_cell BK103.out 0).trans rfl,(blk_cell BK103.out 1).trans rfl,(blk_cell BK103.out 2).trans rfl,((HB.out.cell (World.block_lt_of_cell? w _ hw111_0)).trans hw111_0),((HB.out.cell (World.block_lt_of_cell? w _ hw111_1)).trans hw111_1),((HB.out.cell (World.block_lt_of_cell? w _ hw112_0)).trans hw112_0),((HB.out.cell (World.block_lt_of_cell? w _ hw112_1)).trans hw112_1)⟩ (fun hHeld => ?_);refine with_tabW sr29_Right.tab11 sr29_Right.bits11 (fun HT_ HW_ => ?_)
     generalize wr.drew = w38 at BK103 HB hx111_0 hx111_1 hx112_0 hx112_1 hHeld ⊢
     refine pS (i:=0) (N:=some 60) ?_
     refine pS (i:=2) (N:=some 62) ?_
     refine pS (i:=6) (N:=some 66) ?_
     refine pS (i:=8) (N:=some 68) ?_
     refine tS (i:=1) (N:=some 61) rfl rfl hHeld HT_.out HW_.out (by kernel_rfl) (Or.inl ⟨by rfl,by rintro w' ⟨s0,s1,s2,s3,s4,s5,s6⟩;go_simp;with_reducible rfl⟩) ?_
     refine pS (i:=3) (N:=some 63) ?_
     refine pS (i:=4) (N:=some 64) ?_
     refine tS (i:=5) (N:=some 65) rfl rfl hHeld HT_.out HW_.out (by kernel_rfl) (Or.inl ⟨by rfl,by rintro w' ⟨s0,s1,s2,s3,s4,s5,s6⟩;go_simp;with_reducible rfl⟩) ?_
     refine tS (i:=7) (N:=some 67) rfl rfl hHeld HT_.out HW_.out (by kernel_rfl) (Or.inl ⟨by rfl,by rintro w' ⟨s0,s1,s2,s3,s4,s5,s6⟩;go_simp;with_reducible rfl⟩) ?_
     refine pS (i:=9) (N:=some 69) ?_
     refine pS (i:=10) (N:=some 70) ?_
     refine tS (i:=11) (N:=some 71) rfl rfl hHeld HT_.out HW_.out (by kernel_rfl) (Or.inl ⟨by rfl,by rintro w' ⟨s0,s1,s2,s3,s4,s5,s6⟩;go_simp;with_reducible rfl⟩) ?_
     refine pS (i:=12) (N:=some 72) ?_
     refine done_ (done_of HT_.out (by kernel_rfl)) ?_
     try go_wp2
     go_ret
     exact ⟨eR,bH⟩
   rw [if_neg c37] at H
   have c37b0 : (((rd_T23 l0_0 x4_4).f1).toList == ((rd_T23 l0_0 x3_2).f1).toList) = false:=beq_eq_false_iff_ne.mpr c37
   have c37b1 : (((rd_T23 l0_0 x4_4).f1).toList != ((rd_T23 l0_0 x3_2).f1).toList) = true:=bne_iff_ne.mpr c37
   have H':=aq H
   clear H
   try go_wp2
   replace BK103:=aq (blk_drew BK103.out)
   replace HB:=aq (below_drew1 HB.out)
   have p111 : 0 ≤ (x4_4 : Int):=of_decide_eq_true aS
   have q111 : x4_4 < (l0_0.length : Int):=of_decide_eq_true aS
   obtain ⟨ad111,e111,hx111_0,hx111_1⟩:=at_T23 HR0_0.out x4_4 p111 q111
   have hw111_1:=hx111_1
   have hw111_0:=hx111_0
   cases e111
   replace hx111_0:=(HB.out.cell (World.block_lt_of_cell? w _ hx111_0)).trans hx111_0
   replace hx111_1:=(HB.out.cell (World.block_lt_of_cell? w _ hx111_1)).trans hx111_1
   replace p111:=eq_true p111
   replace q111:=eq_true q111
   have p112 : 0 ≤ (x3_2 : Int):=of_decide_eq_true aS
   have q112 : x3_2 < (l0_0.length : Int):=of_decide_eq_true aS
   obtain ⟨ad112,e112,hx112_0,hx112_1⟩:=at_T23 HR0_0.out x3_2 p112 q112
   have hw112_1:=hx112_1
   have hw112_0:=hx112_0
   obtain rfl : ad111 = ad112:=(by injection e112)
   replace hx112_0:=(HB.out.cell (World.block_lt_of_cell? w _ hx112_0)).trans hx112_0
   replace hx112_1:=(HB.out.cell (World.block_lt_of_cell? w _ hx112_1)).trans hx112_1
   replace p112:=eq_true p112
   replace q112:=eq_true q112
   refine start_ (n:=13) (S:=fun w' => w'.cell? ⟨gb103,0,none⟩ = some (.slice (some ad111) l0_0.length c0_0) ∧ w'.cell? ⟨gb103,1,none⟩ = some (.slice A0_1 l0_1.length c0_1) ∧ w'.cell? ⟨gb103,2,none⟩ = some (.slice A0_2 l0_2.length c0_2) ∧ w'.cell? (ad111.add ((x4_4).toNat * 2)) = some (.string ((rd_T23 l0_0 x4_4).f0)) ∧ w'.cell? ⟨(ad111.add ((x4_4).toNat * 2)).block,(ad111.add ((x4_4).toNat * 2)).off + 1,none⟩ = some (.string ((rd_T23 l0_0 x4_4).f1)) ∧ w'.cell? (ad111.add ((x3_2).toNat * 2)) = some (.string ((rd_T23 l0_0 x3_2).f0)) ∧ w'.cell? ⟨(ad111.add ((x3_2).toNat * 2)).block,(ad111.add ((x3_2).toNat * 2)).off + 1,none⟩ = some (.string ((rd_T23 l0_0 x3_2).f1))) (ds:=[]) #[false,false,false,false,false,false,false,false,false,false,false,false,false] (by kernel_rfl) rfl rfl ⟨(blk_cell BK103.out 0).trans rfl,(blk_cell BK103.out 1).trans rfl,(blk_cell BK103.out 2).trans rfl,((HB.out.cell (World.block_lt_of_cell? w _ hw111_0)).trans hw111_0),((HB.out.cell (World.block_lt_of_cell? w _ hw111_1)).trans hw111_1),((HB.out.cell (World.block_lt_of_cell? w _ hw112_0)).trans hw112_0),((HB.out.cell (World.block_lt_of_cell? w _ hw112_1)).trans hw112_1)⟩ (fun hHeld => ?_);refine with_tabW sr29_Right.tab11 sr29_Right.bits11 (fun HT_ HW_ => ?_)
   generalize wr.drew = w39 at BK103 HB hx111_0 hx111_1 hx112_0 hx112_1 hHeld ⊢
   refine pS (i:=0) (N:=some 60) ?_
   refine pS (i:=2) (N:=some 62) ?_
   refine pS (i:=6) (N:=some 66) ?_
   refine pS (i:=8) (N:=some 68) ?_
   refine tS (i:=1) (N:=some 61) rfl rfl hHeld HT_.out HW_.out (by kernel_rfl) (Or.inl ⟨by rfl,by rintro w' ⟨s0,s1,s2,s3,s4,s5,s6⟩;go_simp;with_reducible rfl⟩) ?_
   refine pS (i:=3) (N:=some 63) ?_
   refine pS (i:=4) (N:=some 64) ?_
   refine tS (i:=5) (N:=some 65) rfl rfl hHeld HT_.out HW_.out (by kernel_rfl) (Or.inl ⟨by rfl,by rintro w' ⟨s0,s1,s2,s3,s4,s5,s6⟩;go_simp;with_reducible rfl⟩) ?_
   refine tS (i:=7) (N:=some 67) rfl rfl hHeld HT_.out HW_.out (by kernel_rfl) (Or.inl ⟨by rfl,by rintro w' ⟨s0,s1,s2,s3,s4,s5,s6⟩;go_simp;with_reducible rfl⟩) ?_
   refine pS (i:=9) (N:=some 69) ?_
   refine pS (i:=10) (N:=some 70) ?_
   refine tS (i:=11) (N:=some 71) rfl rfl hHeld HT_.out HW_.out (by kernel_rfl) (Or.inl ⟨by rfl,by rintro w' ⟨s0,s1,s2,s3,s4,s5,s6⟩;go_simp;with_reducible rfl⟩) ?_
   refine pS (i:=12) (N:=some 72) ?_
   refine done_ (done_of HT_.out (by kernel_rfl)) ?_
   try go_wp2
   go_roundg k4
   case measure => have:=HJ1.out;have:=HK2.out;have:=HJ22.out;have:=HK4.out;omega
   case rel => exact ⟨(wrap64 (x4_4 + 1)),eS,H',⟨by have:=HJ1.out;have:=HK2.out;have:=HJ22.out;have:=HK4.out;omega⟩,⟨KU BK103.out⟩,⟨bH⟩⟩
 rw [if_neg c22] at H
 have c22b0 : decide (x3_2 < (l0_0.length : Int)) = false:=decide_eq_false c22
 clear c22
 have H':=aq H
 clear H
 have hcz40_0 : wr.cell? ⟨gb103,0,none⟩ = some (.slice A0_0 l0_0.length c0_0):=(blk_cell BK103.out 0).trans rfl
 have hcz40_1 : wr.cell? ⟨gb103,1,none⟩ = some (.slice A0_1 l0_1.length c0_1):=(blk_cell BK103.out 1).trans rfl
 have hcz40_2 : wr.cell? ⟨gb103,2,none⟩ = some (.slice A0_2 l0_2.length c0_2):=(blk_cell BK103.out 2).trans rfl
 have hfz40_0:=blk_frozen BK103.out 0
 have hfz40_1:=blk_frozen BK103.out 1
 have hfz40_2:=blk_frozen BK103.out 2
 go_wp2
 go_loopg [5] k2 (fun kq v5 w' => ∃ (x5_3 : Int),v5 = .int .i64 x5_3 ∧ Aside0 (sr29_Right.l2 kq x5_3 l0_0 l0_1 l0_2 = some r) ∧ Aside0 (kq ≤ k2) ∧ Aside0 (w'.heap[gb103]? = some (.cells #[(.slice A0_0 l0_0.length c0_0),(.slice A0_1 l0_1.length c0_1),(.slice A0_2 l0_2.length c0_2)] 34 (0,0))) ∧ Aside0 (Below w.heap.size w w'))
 case atStart => exact ⟨(0),eS,H',⟨Nat.le_refl _⟩,⟨KU BK103.out⟩,⟨bH⟩⟩
 case round =>
 clear H'
 (try clear c21);(try clear c22);(try clear c22b0);(try clear hcz40_0);(try clear hcz40_1);(try clear hcz40_2);(try clear hfz40_0);(try clear hfz40_1);(try clear hfz40_2)
 obtain ⟨x5_3,rfl,HA,HK3,BK103,HB⟩:=hrel
 cases gk with
 | zero => exact absurd HA.out (by simp [sr29_Right.l2])
 | succ k3 =>
 have H:=HA.out
 clear HA
 simp only [sr29_Right.l2] at H
 by_cases c41 : x5_3 < (l0_1.length : Int)
 · rw [if_pos c41] at H
   have c41b0 : decide (x5_3 < (l0_1.length : Int)) = true:=decide_eq_true c41
   clear c41
   have HC42:=aq H
   clear H
   have hcz43_0 : wr.cell? ⟨gb103,0,none⟩ = some (.slice A0_0 l0_0.length c0_0):=(blk_cell BK103.out 0).trans rfl
   have hcz43_1 : wr.cell? ⟨gb103,1,none⟩ = some (.slice A0_1 l0_1.length c0_1):=(blk_cell BK103.out 1).trans rfl
   have hcz43_2 : wr.cell? ⟨gb103,2,none⟩ = some (.slice A0_2 l0_2.length c0_2):=(blk_cell BK103.out 2).trans rfl
   have hfz43_0:=blk_frozen BK103.out 0
   have hfz43_1:=blk_frozen BK103.out 1
   have hfz43_2:=blk_frozen BK103.out 2
   go_upto_region 16 with (fail)
   go_cut [97] (fun v97 wc => ∃ (kq : Nat) (x97_41 : Bool),v97 = .bool x97_41 ∧ Aside0 (sr29_Right.j5 kq x5_3 x97_41 l0_0 l0_1 l0_2 = some r) ∧ Aside0 (kq ≤ k3) ∧ Aside0 (wc.heap[gb103]? = some (.cells #[(.slice A0_0 l0_0.length c0_0),(.slice A0_1 l0_1.length c0_1),(.slice A0_2 l0_2.length c0_2)] 34 (0,0))) ∧ Aside0 (Below w.heap.size w wc))
   case first =>
    have H:=HC42.out
    clear HC42
    by_cases c44 : 0 ≤ x5_3
    rotate_left
    · rw [if_neg c44] at H
      exact absurd H (by simp)
    rw [if_pos c44] at H
    have c44b0 : decide (0 ≤ x5_3) = true:=decide_eq_true c44
    clear c44
    (first|rw [c44b0]|rw [c44b1]|(simp only [i64_w,i32_w];rw [c44b0])|skip)
    replace H:=Option.bind_eq_some_iff.mp H
    obtain ⟨t114,A450,H⟩:=H
    have A45:=aq A450
    clear A450
    by_cases c46 : t114 = true
    rotate_left
    · replace c46:=Bool.eq_false_iff.mpr c46
      subst c46
      have H1 : (sr29_Right.j5 k3 x5_3 true l0_0 l0_1 l0_2) = some r:=by rw [if_neg (show ¬ (false = true) by decide)] at H;exact H
      clear H
      have H:=H1
      clear H1
      have H':=aq H
      clear H
      have hcz49_0 : wr.cell? ⟨gb103,0,none⟩ = some (.slice A0_0 l0_0.length c0_0):=(blk_cell BK103.out 0).trans rfl
      have hcz49_1 : wr.cell? ⟨gb103,1,none⟩ = some (.slice A0_1 l0_1.length c0_1):=(blk_cell BK103.out 1).trans rfl
      have hcz49_2 : wr.cell? ⟨gb103,2,none⟩ = some (.slice A0_2 l0_2.length c0_2):=(blk_cell BK103.out 2).trans rfl
      have hfz49_0:=blk_frozen BK103.out 0
      have hfz49_1:=blk_frozen BK103.out 1
      have hfz49_2:=blk_frozen BK103.out 2
      have p113 : 0 ≤ (x5_3 : Int):=of_decide_eq_true aS
      have q113 : x5_3 < (l0_1.length : Int):=of_decide_eq_true aS
      obtain ⟨ad113,e113,hx113_0,hx113_1⟩:=at_T23 HR0_1.out x5_3 p113 q113
      cases e113
      replace hx113_0:=(HB.out.cell (World.block_lt_of_cell? w _ hx113_0)).trans hx113_0
      replace hx113_1:=(HB.out.cell (World.block_lt_of_cell? w _ hx113_1)).trans hx113_1
      replace p113:=eq_true p113
      replace q113:=eq_true q113
      go_wp2_with (first|((with_reducible refine gate_callee (f:=59) rfl ?_);refine goesL_ (some 86) rfl rfl Tryz.func59 (by kernel_rfl) rfl #[.string ((rd_T23 l0_1 x5_3).f0)] rfl eA ?_;(with_reducible refine (sr04_Name.calls ((rd_T23 l0_1 x5_3).f0) false _ A45.out).mono ?_);rintro e w' ⟨rfl,⟨nd,rfl⟩⟩;refine ⟨_,rfl,?_⟩))
      go_meet
      case rel => exact ⟨_,(true),eS,H',⟨by have:=HJ1.out;have:=HK2.out;have:=HK3.out;first|omega|exact Nat.le_refl _⟩,⟨KU BK103.out⟩,⟨bH⟩⟩
    subst c46
    have H1 : ((sr04_Name.f ((rd_T23 l0_1 x5_3).f1)).bind fun t116 => (sr29_Right.j5 k3 x5_3 (!t116) l0_0 l0_1 l0_2)) = some r:=by rw [if_pos rfl] at H;exact H
    clear H
    have H:=H1
    clear H1
    replace H:=Option.bind_eq_some_iff.mp H
    obtain ⟨t116,A470,H⟩:=H
    have A47:=aq A470
    clear A470
    have H':=aq H
    clear H
    have hcz48_0 : wr.cell? ⟨gb103,0,none⟩ = some (.slice A0_0 l0_0.length c0_0):=(blk_cell BK103.out 0).trans rfl
    have hcz48_1 : wr.cell? ⟨gb103,1,none⟩ = some (.slice A0_1 l0_1.length c0_1):=(blk_cell BK103.out 1).trans rfl
    have hcz48_2 : wr.cell? ⟨gb103,2,none⟩ = some (.slice A0_2 l0_2.length c0_2):=(blk_cell BK103.out 2).trans rfl
    have hfz48_0:=blk_frozen BK103.out 0
    have hfz48_1:=blk_frozen BK103.out 1
    have hfz48_2:=blk_frozen BK103.out 2
    have p113 : 0 ≤ (x5_3 : Int):=of_decide_eq_true aS
    have q113 : x5_3 < (l0_1.length : Int):=of_decide_eq_true aS
    obtain ⟨ad113,e113,hx113_0,hx113_1⟩:=at_T23 HR0_1.out x5_3 p113 q113
    cases e113
    replace hx113_0:=(HB.out.cell (World.block_lt_of_cell? w _ hx113_0)).trans hx113_0
    replace hx113_1:=(HB.out.cell (World.block_lt_of_cell? w _ hx113_1)).trans hx113_1
    replace p113:=eq_true p113
    replace q113:=eq_true q113
    go_wp2_with (first|((with_reducible refine gate_callee (f:=59) rfl ?_);refine goesL_ (some 86) rfl rfl Tryz.func59 (by kernel_rfl) rfl #[.string ((rd_T23 l0_1 x5_3).f0)] rfl eA ?_;(with_reducible refine (sr04_Name.calls ((rd_T23 l0_1 x5_3).f0) true _ A45.out).mono ?_);rintro e w' ⟨rfl,⟨nd,rfl⟩⟩;refine ⟨_,rfl,?_⟩;have p115 : 0 ≤ (x5_3 : Int):=of_decide_eq_true aS;have q115 : x5_3 < (l0_1.length : Int):=of_decide_eq_true aS;obtain ⟨ad115,e115,hx115_0,hx115_1⟩:=at_T23 HR0_1.out x5_3 p115 q115;obtain rfl : ad113 = ad115:=(by injection e115);replace hx115_0:=(HB.out.cell (World.block_lt_of_cell? w _ hx115_0)).trans hx115_0;replace hx115_1:=(HB.out.cell (World.block_lt_of_cell? w _ hx115_1)).trans hx115_1;replace p115:=eq_true p115;replace q115:=eq_true q115)|(go_at_call 59;(with_reducible refine (sr04_Name.calls ((rd_T23 l0_1 x5_3).f1) t116 _ A47.out).mono ?_);rintro e w' ⟨rfl,⟨nd,rfl⟩⟩))
    go_meet
    case rel => exact ⟨_,(!t116),eS,H',⟨by have:=HJ1.out;have:=HK2.out;have:=HK3.out;first|omega|exact Nat.le_refl _⟩,⟨KU BK103.out⟩,⟨bH⟩⟩
   case rest =>
   clear HC42
   (try clear c21);(try clear c22);(try clear c22b0);(try clear c41);(try clear c41b0);(try clear hcz40_0);(try clear hcz40_1);(try clear hcz40_2);(try clear hcz43_0);(try clear hcz43_1);(try clear hcz43_2);(try clear hfz40_0);(try clear hfz40_1);(try clear hfz40_2);(try clear hfz43_0);(try clear hfz43_1);(try clear hfz43_2)
   obtain ⟨kq,x97_41,rfl,HA,HJ41,BK103,HB⟩:=hcut
   cases kq with
   | zero => exact absurd HA.out (by simp [sr29_Right.j5])
   | succ kj41 =>
   have H:=HA.out
   clear HA
   simp only [sr29_Right.j5] at H
   by_cases c50 : x97_41 = true
   · subst c50
     have H1 : (some false) = some r:=by rw [if_pos rfl] at H;exact H
     clear H
     have H:=H1
     clear H1
     obtain rfl:=Option.some.inj H
     go_wp2
     go_ret
     exact ⟨eR,bH⟩
   replace c50:=Bool.eq_false_iff.mpr c50
   subst c50
   have H1 : (sr29_Right.l3 kj41 x5_3 0 l0_0 l0_1 l0_2) = some r:=by rw [if_neg (show ¬ (false = true) by decide)] at H;exact H
   clear H
   have H:=H1
   clear H1
   have H':=aq H
   clear H
   go_wp2
   go_loopg [6] kj41 (fun kq v6 w' => ∃ (x6_5 : Int),v6 = .int .i64 x6_5 ∧ Aside0 (sr29_Right.l3 kq x5_3 x6_5 l0_0 l0_1 l0_2 = some r) ∧ Aside0 (kq ≤ kj41) ∧ Aside0 (w'.heap[gb103]? = some (.cells #[(.slice A0_0 l0_0.length c0_0),(.slice A0_1 l0_1.length c0_1),(.slice A0_2 l0_2.length c0_2)] 34 (0,0))) ∧ Aside0 (Below w.heap.size w w'))
   case atStart => exact ⟨(0),eS,H',⟨Nat.le_refl _⟩,⟨KU BK103.out⟩,⟨bH⟩⟩
   case round =>
   clear H'
   (try clear c21);(try clear c22);(try clear c22b0);(try clear c41);(try clear c41b0);(try clear c50);(try clear hcz40_0);(try clear hcz40_1);(try clear hcz40_2);(try clear hcz43_0);(try clear hcz43_1);(try clear hcz43_2);(try clear hfz40_0);(try clear hfz40_1);(try clear hfz40_2);(try clear hfz43_0);(try clear hfz43_1);(try clear hfz43_2)
   obtain ⟨x6_5,rfl,HA,HK5,BK103,HB⟩:=hrel
   cases gk with
   | zero => exact absurd HA.out (by simp [sr29_Right.l3])
   | succ k5 =>
   have H:=HA.out
   clear HA
   simp only [sr29_Right.l3] at H
   by_cases c51 : x6_5 < x5_3
   rotate_left
   · rw [if_neg c51] at H
     have c51b0 : decide (x6_5 < x5_3) = false:=decide_eq_false c51
     clear c51
     have H':=aq H
     clear H
     go_wp2
     go_roundg k5
     case measure => have:=HJ1.out;have:=HK2.out;have:=HK3.out;have:=HJ41.out;have:=HK5.out;omega
     case rel => exact ⟨(wrap64 (x5_3 + 1)),eS,H',⟨by have:=HJ1.out;have:=HK2.out;have:=HK3.out;have:=HJ41.out;have:=HK5.out;omega⟩,⟨KU BK103.out⟩,⟨bH⟩⟩
   rw [if_pos c51] at H
   have c51b0 : decide (x6_5 < x5_3) = true:=decide_eq_true c51
   clear c51
   by_cases c52 : 0 ≤ x6_5
   rotate_left
   · rw [if_neg c52] at H
     exact absurd H (by simp)
   rw [if_pos c52] at H
   have c52b0 : decide (0 ≤ x6_5) = true:=decide_eq_true c52
   clear c52
   by_cases c53 : x6_5 < (l0_1.length : Int)
   rotate_left
   · rw [if_neg c53] at H
     exact absurd H (by simp)
   rw [if_pos c53] at H
   have c53b0 : decide (x6_5 < (l0_1.length : Int)) = true:=decide_eq_true c53
   clear c53
   by_cases c54 : 0 ≤ x5_3
   rotate_left
   · rw [if_neg c54] at H
     exact absurd H (by simp)
   rw [if_pos c54] at H
   have c54b0 : decide (0 ≤ x5_3) = true:=decide_eq_true c54
   clear c54
   by_cases c55 : x5_3 < (l0_1.length : Int)
   rotate_left
   · rw [if_neg c55] at H
     exact absurd H (by simp)
   rw [if_pos c55] at H
   have c55b0 : decide (x5_3 < (l0_1.length : Int)) = true:=decide_eq_true c55
   clear c55
   by_cases c56 : ((rd_T23 l0_1 x6_5).f1).toList = ((rd_T23 l0_1 x5_3).f1).toList
   · rw [if_pos c56] at H
     have c56b0 : (((rd_T23 l0_1 x6_5).f1).toList == ((rd_T23 l0_1 x5_3).f1).toList) = true:=beq_iff_eq.mpr c56
     have c56b1 : (((rd_T23 l0_1 x6_5).f1).toList != ((rd_T23 l0_1 x5_3).f1).toList) = false:=bne_eq_false_iff_eq.mpr c56
     clear c56
     obtain rfl:=Option.some.inj H
     try go_wp2
     replace BK103:=aq (blk_drew BK103.out)
     replace HB:=aq (below_drew1 HB.out)
     have p117 : 0 ≤ (x6_5 : Int):=of_decide_eq_true aS
     have q117 : x6_5 < (l0_1.length : Int):=of_decide_eq_true aS
     obtain ⟨ad117,e117,hx117_0,hx117_1⟩:=at_T23 HR0_1.out x6_5 p117 q117
     have hw117_1:=hx117_1
     have hw117_0:=hx117_0
     cases e117
     replace hx117_0:=(HB.out.cell (World.block_lt_of_cell? w _ hx117_0)).trans hx117_0
     replace hx117_1:=(HB.out.cell (World.block_lt_of_cell? w _ hx117_1)).trans hx117_1
     replace p117:=eq_true p117
     replace q117:=eq_true q117
     have p118 : 0 ≤ (x5_3 : Int):=of_decide_eq_true aS
     have q118 : x5_3 < (l0_1.length : Int):=of_decide_eq_true aS
     obtain ⟨ad118,e118,hx118_0,hx118_1⟩:=at_T23 HR0_1.out x5_3 p118 q118
     have hw118_1:=hx118_1
     have hw118_0:=hx118_0
     obtain rfl : ad117 = ad118:=(by injection e118)
     replace hx118_0:=(HB.out.cell (World.block_lt_of_cell? w _ hx118_0)).trans hx118_0
     replace hx118_1:=(HB.out.cell (World.block_lt_of_cell? w _ hx118_1)).trans hx118_1
     replace p118:=eq_true p118
     replace q118:=eq_true q118
     refine start_ (n:=13) (S:=fun w' => w'.cell? ⟨gb103,0,none⟩ = some (.slice A0_0 l0_0.length c0_0) ∧ w'.cell? ⟨gb103,1,none⟩ = some (.slice (some ad117) l0_1.length c0_1) ∧ w'.cell? ⟨gb103,2,none⟩ = some (.slice A0_2 l0_2.length c0_2) ∧ w'.cell? (ad117.add ((x6_5).toNat * 2)) = some (.string ((rd_T23 l0_1 x6_5).f0)) ∧ w'.cell? ⟨(ad117.add ((x6_5).toNat * 2)).block,(ad117.add ((x6_5).toNat * 2)).off + 1,none⟩ = some (.string ((rd_T23 l0_1 x6_5).f1)) ∧ w'.cell? (ad117.add ((x5_3).toNat * 2)) = some (.string ((rd_T23 l0_1 x5_3).f0)) ∧ w'.cell? ⟨(ad117.add ((x5_3).toNat * 2)).block,(ad117.add ((x5_3).toNat * 2)).off + 1,none⟩ = some (.string ((rd_T23 l0_1 x5_3).f1))) (ds:=[]) #[false,false,false,false,false,false,false,false,false,false,false,false,false] (by kernel_rfl) rfl rfl ⟨(blk_cell BK103.out 0).trans rfl,(blk_cell BK103.out 1).trans rfl,(blk_cell BK103.out 2).trans rfl,((HB.out.cell (World.block_lt_of_cell? w _ hw117_0)).trans hw117_0),((HB.out.cell (World.block_lt_of_cell? w _ hw117_1)).trans hw117_1),((HB.out.cell (World.block_lt_of_cell? w _ hw118_0)).trans hw118_0),((HB.out.cell (World.block_lt_of_cell? w _ hw118_1)).trans hw118_1)⟩ (fun hHeld => ?_);refine with_tabW sr29_Right.tab21 sr29_Right.bits21 (fun HT_ HW_ => ?_)
     generalize wr.drew = w57 at BK103 HB hx117_0 hx117_1 hx118_0 hx118_1 hHeld ⊢
     refine pS (i:=0) (N:=some 103) ?_
     refine pS (i:=2) (N:=some 105) ?_
     refine pS (i:=6) (N:=some 109) ?_
     refine pS (i:=8) (N:=some 111) ?_
     refine tS (i:=1) (N:=some 104) rfl rfl hHeld HT_.out HW_.out (by kernel_rfl) (Or.inl ⟨by rfl,by rintro w' ⟨s0,s1,s2,s3,s4,s5,s6⟩;go_simp;with_reducible rfl⟩) ?_
     refine pS (i:=3) (N:=some 106) ?_
     refine pS (i:=4) (N:=some 107) ?_
     refine tS (i:=5) (N:=some 108) rfl rfl hHeld HT_.out HW_.out (by kernel_rfl) (Or.inl ⟨by rfl,by rintro w' ⟨s0,s1,s2,s3,s4,s5,s6⟩;go_simp;with_reducible rfl⟩) ?_
     refine tS (i:=7) (N:=some 110) rfl rfl hHeld HT_.out HW_.out (by kernel_rfl) (Or.inl ⟨by rfl,by rintro w' ⟨s0,s1,s2,s3,s4,s5,s6⟩;go_simp;with_reducible rfl⟩) ?_
     refine pS (i:=9) (N:=some 112) ?_
     refine pS (i:=10) (N:=some 113) ?_
     refine tS (i:=11) (N:=some 114) rfl rfl hHeld HT_.out HW_.out (by kernel_rfl) (Or.inl ⟨by rfl,by rintro w' ⟨s0,s1,s2,s3,s4,s5,s6⟩;go_simp;with_reducible rfl⟩) ?_
     refine pS (i:=12) (N:=some 115) ?_
     refine done_ (done_of HT_.out (by kernel_rfl)) ?_
     try go_wp2
     go_ret
     exact ⟨eR,bH⟩
   rw [if_neg c56] at H
   have c56b0 : (((rd_T23 l0_1 x6_5).f1).toList == ((rd_T23 l0_1 x5_3).f1).toList) = false:=beq_eq_false_iff_ne.mpr c56
   have c56b1 : (((rd_T23 l0_1 x6_5).f1).toList != ((rd_T23 l0_1 x5_3).f1).toList) = true:=bne_iff_ne.mpr c56
   have H':=aq H
   clear H
   try go_wp2
   replace BK103:=aq (blk_drew BK103.out)
   replace HB:=aq (below_drew1 HB.out)
   have p117 : 0 ≤ (x6_5 : Int):=of_decide_eq_true aS
   have q117 : x6_5 < (l0_1.length : Int):=of_decide_eq_true aS
   obtain ⟨ad117,e117,hx117_0,hx117_1⟩:=at_T23 HR0_1.out x6_5 p117 q117
   have hw117_1:=hx117_1
   have hw117_0:=hx117_0
   cases e117
   replace hx117_0:=(HB.out.cell (World.block_lt_of_cell? w _ hx117_0)).trans hx117_0
   replace hx117_1:=(HB.out.cell (World.block_lt_of_cell? w _ hx117_1)).trans hx117_1
   replace p117:=eq_true p117
   replace q117:=eq_true q117
   have p118 : 0 ≤ (x5_3 : Int):=of_decide_eq_true aS
   have q118 : x5_3 < (l0_1.length : Int):=of_decide_eq_true aS
   obtain ⟨ad118,e118,hx118_0,hx118_1⟩:=at_T23 HR0_1.out x5_3 p118 q118
   have hw118_1:=hx118_1
   have hw118_0:=hx118_0
   obtain rfl : ad117 = ad118:=(by injection e118)
   replace hx118_0:=(HB.out.cell (World.block_lt_of_cell? w _ hx118_0)).trans hx118_0
   replace hx118_1:=(HB.out.cell (World.block_lt_of_cell? w _ hx118_1)).trans hx118_1
   replace p118:=eq_true p118
   replace q118:=eq_true q118
   refine start_ (n:=13) (S:=fun w' => w'.cell? ⟨gb103,0,none⟩ = some (.slice A0_0 l0_0.length c0_0) ∧ w'.cell? ⟨gb103,1,none⟩ = some (.slice (some ad117) l0_1.length c0_1) ∧ w'.cell? ⟨gb103,2,none⟩ = some (.slice A0_2 l0_2.length c0_2) ∧ w'.cell? (ad117.add ((x6_5).toNat * 2)) = some (.string ((rd_T23 l0_1 x6_5).f0)) ∧ w'.cell? ⟨(ad117.add ((x6_5).toNat * 2)).block,(ad117.add ((x6_5).toNat * 2)).off + 1,none⟩ = some (.string ((rd_T23 l0_1 x6_5).f1)) ∧ w'.cell? (ad117.add ((x5_3).toNat * 2)) = some (.string ((rd_T23 l0_1 x5_3).f0)) ∧ w'.cell? ⟨(ad117.add ((x5_3).toNat * 2)).block,(ad117.add ((x5_3).toNat * 2)).off + 1,none⟩ = some (.string ((rd_T23 l0_1 x5_3).f1))) (ds:=[]) #[false,false,false,false,false,false,false,false,false,false,false,false,false] (by kernel_rfl) rfl rfl ⟨(blk_cell BK103.out 0).trans rfl,(blk_cell BK103.out 1).trans rfl,(blk_cell BK103.out 2).trans rfl,((HB.out.cell (World.block_lt_of_cell? w _ hw117_0)).trans hw117_0),((HB.out.cell (World.block_lt_of_cell? w _ hw117_1)).trans hw117_1),((HB.out.cell (World.block_lt_of_cell? w _ hw118_0)).trans hw118_0),((HB.out.cell (World.block_lt_of_cell? w _ hw118_1)).trans hw118_1)⟩ (fun hHeld => ?_);refine with_tabW sr29_Right.tab21 sr29_Right.bits21 (fun HT_ HW_ => ?_)
   generalize wr.drew = w58 at BK103 HB hx117_0 hx117_1 hx118_0 hx118_1 hHeld ⊢
   refine pS (i:=0) (N:=some 103) ?_
   refine pS (i:=2) (N:=some 105) ?_
   refine pS (i:=6) (N:=some 109) ?_
   refine pS (i:=8) (N:=some 111) ?_
   refine tS (i:=1) (N:=some 104) rfl rfl hHeld HT_.out HW_.out (by kernel_rfl) (Or.inl ⟨by rfl,by rintro w' ⟨s0,s1,s2,s3,s4,s5,s6⟩;go_simp;with_reducible rfl⟩) ?_
   refine pS (i:=3) (N:=some 106) ?_
   refine pS (i:=4) (N:=some 107) ?_
   refine tS (i:=5) (N:=some 108) rfl rfl hHeld HT_.out HW_.out (by kernel_rfl) (Or.inl ⟨by rfl,by rintro w' ⟨s0,s1,s2,s3,s4,s5,s6⟩;go_simp;with_reducible rfl⟩) ?_
   refine tS (i:=7) (N:=some 110) rfl rfl hHeld HT_.out HW_.out (by kernel_rfl) (Or.inl ⟨by rfl,by rintro w' ⟨s0,s1,s2,s3,s4,s5,s6⟩;go_simp;with_reducible rfl⟩) ?_
   refine pS (i:=9) (N:=some 112) ?_
   refine pS (i:=10) (N:=some 113) ?_
   refine tS (i:=11) (N:=some 114) rfl rfl hHeld HT_.out HW_.out (by kernel_rfl) (Or.inl ⟨by rfl,by rintro w' ⟨s0,s1,s2,s3,s4,s5,s6⟩;go_simp;with_reducible rfl⟩) ?_
   refine pS (i:=12) (N:=some 115) ?_
   refine done_ (done_of HT_.out (by kernel_rfl)) ?_
   try go_wp2
   go_roundg k5
   case measure => have:=HJ1.out;have:=HK2.out;have:=HK3.out;have:=HJ41.out;have:=HK5.out;omega
   case rel => exact ⟨(wrap64 (x6_5 + 1)),eS,H',⟨by have:=HJ1.out;have:=HK2.out;have:=HK3.out;have:=HJ41.out;have:=HK5.out;omega⟩,⟨KU BK103.out⟩,⟨bH⟩⟩
 rw [if_neg c41] at H
 have c41b0 : decide (x5_3 < (l0_1.length : Int)) = false:=decide_eq_false c41
 clear c41
 have H':=aq H
 clear H
 have hcz59_0 : wr.cell? ⟨gb103,0,none⟩ = some (.slice A0_0 l0_0.length c0_0):=(blk_cell BK103.out 0).trans rfl
 have hcz59_1 : wr.cell? ⟨gb103,1,none⟩ = some (.slice A0_1 l0_1.length c0_1):=(blk_cell BK103.out 1).trans rfl
 have hcz59_2 : wr.cell? ⟨gb103,2,none⟩ = some (.slice A0_2 l0_2.length c0_2):=(blk_cell BK103.out 2).trans rfl
 have hfz59_0:=blk_frozen BK103.out 0
 have hfz59_1:=blk_frozen BK103.out 1
 have hfz59_2:=blk_frozen BK103.out 2
 go_wp2
 go_loopg [7] k3 (fun kq v7 w' => ∃ (x7_4 : Int),v7 = .int .i64 x7_4 ∧ Aside0 (sr29_Right.l4 kq x7_4 l0_0 l0_1 l0_2 = some r) ∧ Aside0 (kq ≤ k3) ∧ Aside0 (w'.heap[gb103]? = some (.cells #[(.slice A0_0 l0_0.length c0_0),(.slice A0_1 l0_1.length c0_1),(.slice A0_2 l0_2.length c0_2)] 34 (0,0))) ∧ Aside0 (Below w.heap.size w w'))
 case atStart => exact ⟨(0),eS,H',⟨Nat.le_refl _⟩,⟨KU BK103.out⟩,⟨bH⟩⟩
 case round =>
 clear H'
 (try clear c21);(try clear c22);(try clear c22b0);(try clear c41);(try clear c41b0);(try clear hcz40_0);(try clear hcz40_1);(try clear hcz40_2);(try clear hcz59_0);(try clear hcz59_1);(try clear hcz59_2);(try clear hfz40_0);(try clear hfz40_1);(try clear hfz40_2);(try clear hfz59_0);(try clear hfz59_1);(try clear hfz59_2)
 obtain ⟨x7_4,rfl,HA,HK4,BK103,HB⟩:=hrel
 cases gk with
 | zero => exact absurd HA.out (by simp [sr29_Right.l4])
 | succ k4 =>
 have H:=HA.out
 clear HA
 simp only [sr29_Right.l4] at H
 by_cases c60 : x7_4 < (l0_2.length : Int)
 rotate_left
 · rw [if_neg c60] at H
   have c60b0 : decide (x7_4 < (l0_2.length : Int)) = false:=decide_eq_false c60
   clear c60
   obtain rfl:=Option.some.inj H
   have hcz98_0 : wr.cell? ⟨gb103,0,none⟩ = some (.slice A0_0 l0_0.length c0_0):=(blk_cell BK103.out 0).trans rfl
   have hcz98_1 : wr.cell? ⟨gb103,1,none⟩ = some (.slice A0_1 l0_1.length c0_1):=(blk_cell BK103.out 1).trans rfl
   have hcz98_2 : wr.cell? ⟨gb103,2,none⟩ = some (.slice A0_2 l0_2.length c0_2):=(blk_cell BK103.out 2).trans rfl
   have hfz98_0:=blk_frozen BK103.out 0
   have hfz98_1:=blk_frozen BK103.out 1
   have hfz98_2:=blk_frozen BK103.out 2
   go_wp2
   go_ret
   exact ⟨eR,bH⟩
 rw [if_pos c60] at H
 have c60b0 : decide (x7_4 < (l0_2.length : Int)) = true:=decide_eq_true c60
 clear c60
 by_cases c61 : 0 ≤ x7_4
 rotate_left
 · rw [if_neg c61] at H
   exact absurd H (by simp)
 rw [if_pos c61] at H
 have c61b0 : decide (0 ≤ x7_4) = true:=decide_eq_true c61
 clear c61
 replace H:=Option.bind_eq_some_iff.mp H
 obtain ⟨⟨t120,t121⟩,A620,H⟩:=H
 replace H : ((sr06_Renamed.f t121 l0_0).bind fun t122 => ((sr04_Name.f t120).bind fun t123 => (if t123 = true then ((sr04_Name.f ((rd_T23 l0_2 x7_4).f1)).bind fun t125 => (if t125 = true then (if t122.toList = ([] : List UInt8) then (sr29_Right.j8 k4 x7_4 t122 true l0_0 l0_1 l0_2) else ((sr06_Classes.f t121).bind fun t126 => ((sr29_named.f k4 l0_0 t126).bind fun t129 => (sr29_Right.j8 k4 x7_4 t122 (!t129) l0_0 l0_1 l0_2)))) else (sr29_Right.j8 k4 x7_4 t122 true l0_0 l0_1 l0_2))) else (sr29_Right.j8 k4 x7_4 t122 true l0_0 l0_1 l0_2)))) = some r:=H
 have A62:=aq A620
 clear A620
 replace H:=Option.bind_eq_some_iff.mp H
 obtain ⟨t122,A630,H⟩:=H
 have A63:=aq A630
 clear A630
 have HC64:=aq H
 clear H
 have hcz65_0 : wr.cell? ⟨gb103,0,none⟩ = some (.slice A0_0 l0_0.length c0_0):=(blk_cell BK103.out 0).trans rfl
 have hcz65_1 : wr.cell? ⟨gb103,1,none⟩ = some (.slice A0_1 l0_1.length c0_1):=(blk_cell BK103.out 1).trans rfl
 have hcz65_2 : wr.cell? ⟨gb103,2,none⟩ = some (.slice A0_2 l0_2.length c0_2):=(blk_cell BK103.out 2).trans rfl
 have hfz65_0:=blk_frozen BK103.out 0
 have hfz65_1:=blk_frozen BK103.out 1
 have hfz65_2:=blk_frozen BK103.out 2
 have p119 : 0 ≤ (x7_4 : Int):=of_decide_eq_true aS
 have q119 : x7_4 < (l0_2.length : Int):=of_decide_eq_true aS
 obtain ⟨ad119,e119,hx119_0,hx119_1⟩:=at_T23 HR0_2.out x7_4 p119 q119
 cases e119
 replace hx119_0:=(HB.out.cell (World.block_lt_of_cell? w _ hx119_0)).trans hx119_0
 replace hx119_1:=(HB.out.cell (World.block_lt_of_cell? w _ hx119_1)).trans hx119_1
 replace p119:=eq_true p119
 replace q119:=eq_true q119
 go_upto_region 28 with (first|((with_reducible refine gate_callee (f:=60) rfl ?_);refine goesL_ (some 130) rfl rfl Tryz.func60 (by kernel_rfl) rfl #[.string ((rd_T23 l0_2 x7_4).f0)] rfl eA ?_;(with_reducible refine (sr29_cut.calls k4 ((rd_T23 l0_2 x7_4).f0) t120 t121 _ A62.out).mono ?_);rintro e w' ⟨rfl,⟨nd,rfl⟩⟩;refine ⟨_,rfl,?_⟩)|((with_reducible refine gate_callee (f:=61) rfl ?_);refine goesL_ (some 136) rfl rfl Tryz.func61 (by kernel_rfl) rfl #[.string t121,.slice A0_0 l0_0.length c0_0] rfl eA ?_;(with_reducible refine (sr06_Renamed.calls t121 _ _ l0_0 t122 _ ?side1 ?side2 A63.out).mono ?_);(case side1 => repeat (first|exact (Kd.C_below HR0_0.out bH)|(with_reducible refine Kd.C_alloc ?_ _)|(with_reducible refine Kd.C_drewN ?_ _)|(with_reducible refine Kd.C_drew ?_)));(case side2 => exact HC0_0.out);rintro e w66 ⟨rfl,hb⟩;refine ⟨_,rfl,?_⟩;replace BK103:=KN BK103 hb;replace HB:=aq (below_step bH hb);(try clear hb);(try clear hb2);(try clear hk);(try clear hi)))
 (try simp only [Act.put,List.setIfInBounds_toArray,List.set_cons_zero,List.set_cons_succ])
 go_cut [161] (fun v161 wc => ∃ (kq : Nat) (x161_63 : Bool),v161 = .bool x161_63 ∧ Aside0 (sr29_Right.j8 kq x7_4 t122 x161_63 l0_0 l0_1 l0_2 = some r) ∧ Aside0 (kq ≤ k4) ∧ Aside0 (wc.heap[gb103]? = some (.cells #[(.slice A0_0 l0_0.length c0_0),(.slice A0_1 l0_1.length c0_1),(.slice (some ad119) l0_2.length c0_2)] 34 (0,0))) ∧ Aside0 (Below w.heap.size w wc))
 case first =>
  have H:=HC64.out
  clear HC64
  replace H:=Option.bind_eq_some_iff.mp H
  obtain ⟨t123,A670,H⟩:=H
  have A67:=aq A670
  clear A670
  by_cases c68 : t123 = true
  rotate_left
  · replace c68:=Bool.eq_false_iff.mpr c68
    subst c68
    have H1 : (sr29_Right.j8 k4 x7_4 t122 true l0_0 l0_1 l0_2) = some r:=by rw [if_neg (show ¬ (false = true) by decide)] at H;exact H
    clear H
    have H:=H1
    clear H1
    have H':=aq H
    clear H
    try go_wp2
    replace BK103:=aq (blk_drew BK103.out)
    replace HB:=aq (below_drew1 HB.out)
    refine start_ (n:=25) (S:=fun w' => True) (ds:=[]) #[false,false,false,false,false,false,false,false,false,false,false,false,false,false,false,false,false,false,false,false,false,false,false,false,false] (by kernel_rfl) rfl rfl trivial (fun hHeld => ?_);refine with_tabW sr29_Right.tab28 sr29_Right.bits28 (fun HT_ HW_ => ?_)
    generalize w66.drew = w79 at BK103 HB hHeld ⊢
    refine pS (i:=0) (N:=some 137) ?_
    refine one_ (i:=1) (N:=some 138) #[true,true,false,false,false,false,false,false,false,false,false,false,false,false,false,false,false,false,false,false,false,false,false,false,false] rfl rfl (one_of HT_.out (by kernel_rfl)) (by decide) (fun K hK => ?_)
    refine goes_ Tryz.func59 (by kernel_rfl) rfl #[.string t120] (by rfl) rfl rfl eA ?_
    with_reducible refine (sr04_Name.calls t120 false _ A67.out).mono ?_
    rintro e w' ⟨rfl,⟨nd,rfl⟩⟩
    refine ⟨_,rfl,?_⟩
    refine hK.out _ _ trivial (fun hHeld => ?_)
    clear hK K
    refine norm_ (a':=?_) ?_ ?_
    rotate_left
    · show Act.put _ (some 138) _ = _
      simp only [Act.put,List.setIfInBounds_toArray,List.set_cons_zero,List.set_cons_succ,i64_w,i32_w]
      rfl
    refine pS (i:=2) (N:=some 139) ?_
    refine pS (i:=3) (N:=some 140) ?_
    refine pU (i:=4) (N:=some 141) ?_
    refine pU (i:=5) (N:=some 142) ?_
    refine pU (i:=6) (N:=some 143) ?_
    refine pU (i:=7) (N:=some 144) ?_
    refine pU (i:=8) (N:=some 145) ?_
    refine pU (i:=9) (N:=some 146) ?_
    refine pU (i:=10) (N:=some 147) ?_
    refine pU (i:=11) (N:=some 148) ?_
    refine pS (i:=12) (N:=some 149) ?_
    refine pS (i:=13) (N:=some 150) ?_
    refine pU (i:=14) (N:=some 151) ?_
    refine pU (i:=15) (N:=some 152) ?_
    refine pS (i:=16) (N:=some 153) ?_
    refine pS (i:=17) (N:=some 154) ?_
    refine pU (i:=18) (N:=some 155) ?_
    refine pU (i:=19) (N:=some 156) ?_
    refine pU (i:=20) (N:=some 157) ?_
    refine pU (i:=21) (N:=some 158) ?_
    refine pU (i:=22) (N:=some 159) ?_
    refine pU (i:=23) (N:=some 160) ?_
    refine pS (i:=24) (N:=some 161) ?_
    refine done_ (done_of HT_.out (by kernel_rfl)) ?_
    try go_wp2
    go_meet
    case rel => exact ⟨_,(true),eS,H',⟨by have:=HJ1.out;have:=HK2.out;have:=HK3.out;have:=HK4.out;first|omega|exact Nat.le_refl _⟩,⟨KU BK103.out⟩,⟨bH⟩⟩
  subst c68
  have H1 : ((sr04_Name.f ((rd_T23 l0_2 x7_4).f1)).bind fun t125 => (if t125 = true then (if t122.toList = ([] : List UInt8) then (sr29_Right.j8 k4 x7_4 t122 true l0_0 l0_1 l0_2) else ((sr06_Classes.f t121).bind fun t126 => ((sr29_named.f k4 l0_0 t126).bind fun t129 => (sr29_Right.j8 k4 x7_4 t122 (!t129) l0_0 l0_1 l0_2)))) else (sr29_Right.j8 k4 x7_4 t122 true l0_0 l0_1 l0_2))) = some r:=by rw [if_pos rfl] at H;exact H
  clear H
  have H:=H1
  clear H1
  replace H:=Option.bind_eq_some_iff.mp H
  obtain ⟨t125,A690,H⟩:=H
  have A69:=aq A690
  clear A690
  by_cases c70 : t125 = true
  rotate_left
  · replace c70:=Bool.eq_false_iff.mpr c70
    subst c70
    have H1 : (sr29_Right.j8 k4 x7_4 t122 true l0_0 l0_1 l0_2) = some r:=by rw [if_neg (show ¬ (false = true) by decide)] at H;exact H
    clear H
    have H:=H1
    clear H1
    have H':=aq H
    clear H
    try go_wp2
    replace BK103:=aq (blk_drew BK103.out)
    replace HB:=aq (below_drew1 HB.out)
    have p124 : 0 ≤ (x7_4 : Int):=of_decide_eq_true aS
    have q124 : x7_4 < (l0_2.length : Int):=of_decide_eq_true aS
    obtain ⟨ad124,e124,hx124_0,hx124_1⟩:=at_T23 HR0_2.out x7_4 p124 q124
    have hw124_1:=hx124_1
    have hw124_0:=hx124_0
    obtain rfl : ad119 = ad124:=(by injection e124)
    replace hx124_0:=(HB.out.cell (World.block_lt_of_cell? w _ hx124_0)).trans hx124_0
    replace hx124_1:=(HB.out.cell (World.block_lt_of_cell? w _ hx124_1)).trans hx124_1
    replace p124:=eq_true p124
    replace q124:=eq_true q124
    refine start_ (n:=25) (S:=fun w' => w'.cell? ⟨gb103,0,none⟩ = some (.slice A0_0 l0_0.length c0_0) ∧ w'.cell? ⟨gb103,1,none⟩ = some (.slice A0_1 l0_1.length c0_1) ∧ w'.cell? ⟨gb103,2,none⟩ = some (.slice (some ad119) l0_2.length c0_2) ∧ w'.cell? (ad119.add ((x7_4).toNat * 2)) = some (.string ((rd_T23 l0_2 x7_4).f0)) ∧ w'.cell? ⟨(ad119.add ((x7_4).toNat * 2)).block,(ad119.add ((x7_4).toNat * 2)).off + 1,none⟩ = some (.string ((rd_T23 l0_2 x7_4).f1))) (ds:=[]) #[false,false,false,false,false,false,false,false,false,false,false,false,false,false,false,false,false,false,false,false,false,false,false,false,false] (by kernel_rfl) rfl rfl ⟨(blk_cell BK103.out 0).trans rfl,(blk_cell BK103.out 1).trans rfl,(blk_cell BK103.out 2).trans rfl,((HB.out.cell (World.block_lt_of_cell? w _ hw124_0)).trans hw124_0),((HB.out.cell (World.block_lt_of_cell? w _ hw124_1)).trans hw124_1)⟩ (fun hHeld => ?_);refine with_tabW sr29_Right.tab28 sr29_Right.bits28 (fun HT_ HW_ => ?_)
    generalize w66.drew = w78 at BK103 HB hx124_0 hx124_1 hHeld ⊢
    refine pS (i:=0) (N:=some 137) ?_
    refine one_ (i:=1) (N:=some 138) #[true,true,false,false,false,false,false,false,false,false,false,false,false,false,false,false,false,false,false,false,false,false,false,false,false] rfl rfl (one_of HT_.out (by kernel_rfl)) (by decide) (fun K hK => ?_)
    refine goes_ Tryz.func59 (by kernel_rfl) rfl #[.string t120] (by rfl) rfl rfl eA ?_
    with_reducible refine (sr04_Name.calls t120 true _ A67.out).mono ?_
    rintro e w' ⟨rfl,⟨nd,rfl⟩⟩
    refine ⟨_,rfl,?_⟩
    refine hK.out _ _ ⟨(blk_cell BK103.out 0).trans rfl,(blk_cell BK103.out 1).trans rfl,(blk_cell BK103.out 2).trans rfl,((HB.out.cell (World.block_lt_of_cell? w _ hw124_0)).trans hw124_0),((HB.out.cell (World.block_lt_of_cell? w _ hw124_1)).trans hw124_1)⟩ (fun hHeld => ?_)
    clear hK K
    refine norm_ (a':=?_) ?_ ?_
    rotate_left
    · show Act.put _ (some 138) _ = _
      simp only [Act.put,List.setIfInBounds_toArray,List.set_cons_zero,List.set_cons_succ,i64_w,i32_w]
      rfl
    refine pS (i:=2) (N:=some 139) ?_
    refine pS (i:=3) (N:=some 140) ?_
    refine pS (i:=4) (N:=some 141) ?_
    refine pS (i:=6) (N:=some 143) ?_
    refine tS (i:=5) (N:=some 142) rfl rfl hHeld HT_.out HW_.out (by kernel_rfl) (Or.inl ⟨by rfl,by rintro w' ⟨s0,s1,s2,s3,s4⟩;go_simp;with_reducible rfl⟩) ?_
    refine pS (i:=7) (N:=some 144) ?_
    refine pS (i:=8) (N:=some 145) ?_
    refine tS (i:=9) (N:=some 146) rfl rfl hHeld HT_.out HW_.out (by kernel_rfl) (Or.inl ⟨by rfl,by rintro w' ⟨s0,s1,s2,s3,s4⟩;go_simp;with_reducible rfl⟩) ?_
    refine one_ (i:=10) (N:=some 147) #[true,true,true,true,true,true,true,true,true,true,true,false,false,false,false,false,false,false,false,false,false,false,false,false,false] rfl rfl (one_of HT_.out (by kernel_rfl)) (by decide) (fun K hK => ?_)
    refine goes_ Tryz.func59 (by kernel_rfl) rfl #[.string ((rd_T23 l0_2 x7_4).f1)] (by rfl) rfl rfl eA ?_
    with_reducible refine (sr04_Name.calls ((rd_T23 l0_2 x7_4).f1) false _ A69.out).mono ?_
    rintro e w' ⟨rfl,⟨nd,rfl⟩⟩
    refine ⟨_,rfl,?_⟩
    refine hK.out _ _ ⟨(blk_cell BK103.out 0).trans rfl,(blk_cell BK103.out 1).trans rfl,(blk_cell BK103.out 2).trans rfl,((HB.out.cell (World.block_lt_of_cell? w _ hw124_0)).trans hw124_0),((HB.out.cell (World.block_lt_of_cell? w _ hw124_1)).trans hw124_1)⟩ (fun hHeld => ?_)
    clear hK K
    refine norm_ (a':=?_) ?_ ?_
    rotate_left
    · show Act.put _ (some 147) _ = _
      simp only [Act.put,List.setIfInBounds_toArray,List.set_cons_zero,List.set_cons_succ,i64_w,i32_w]
      rfl
    refine pS (i:=11) (N:=some 148) ?_
    refine pS (i:=12) (N:=some 149) ?_
    refine pS (i:=13) (N:=some 150) ?_
    refine pU (i:=14) (N:=some 151) ?_
    refine pU (i:=15) (N:=some 152) ?_
    refine pS (i:=16) (N:=some 153) ?_
    refine pS (i:=17) (N:=some 154) ?_
    refine pU (i:=18) (N:=some 155) ?_
    refine pU (i:=19) (N:=some 156) ?_
    refine pU (i:=20) (N:=some 157) ?_
    refine pU (i:=21) (N:=some 158) ?_
    refine pU (i:=22) (N:=some 159) ?_
    refine pU (i:=23) (N:=some 160) ?_
    refine pS (i:=24) (N:=some 161) ?_
    refine done_ (done_of HT_.out (by kernel_rfl)) ?_
    try go_wp2
    go_meet
    case rel => exact ⟨_,(true),eS,H',⟨by have:=HJ1.out;have:=HK2.out;have:=HK3.out;have:=HK4.out;first|omega|exact Nat.le_refl _⟩,⟨KU BK103.out⟩,⟨bH⟩⟩
  subst c70
  have H1 : (if t122.toList = ([] : List UInt8) then (sr29_Right.j8 k4 x7_4 t122 true l0_0 l0_1 l0_2) else ((sr06_Classes.f t121).bind fun t126 => ((sr29_named.f k4 l0_0 t126).bind fun t129 => (sr29_Right.j8 k4 x7_4 t122 (!t129) l0_0 l0_1 l0_2)))) = some r:=by rw [if_pos rfl] at H;exact H
  clear H
  have H:=H1
  clear H1
  by_cases c71 : t122.toList = ([] : List UInt8)
  · rw [if_pos c71] at H
    have c71b0 : (t122.toList == ([] : List UInt8)) = true:=beq_iff_eq.mpr c71
    have c71b1 : (t122.toList != ([] : List UInt8)) = false:=bne_eq_false_iff_eq.mpr c71
    clear c71
    (first|rw [c71b0]|rw [c71b1]|(simp only [i64_w,i32_w];rw [c71b0])|skip)
    have H':=aq H
    clear H
    try go_wp2
    replace BK103:=aq (blk_drew BK103.out)
    replace HB:=aq (below_drew1 HB.out)
    have p124 : 0 ≤ (x7_4 : Int):=of_decide_eq_true aS
    have q124 : x7_4 < (l0_2.length : Int):=of_decide_eq_true aS
    obtain ⟨ad124,e124,hx124_0,hx124_1⟩:=at_T23 HR0_2.out x7_4 p124 q124
    have hw124_1:=hx124_1
    have hw124_0:=hx124_0
    obtain rfl : ad119 = ad124:=(by injection e124)
    replace hx124_0:=(HB.out.cell (World.block_lt_of_cell? w _ hx124_0)).trans hx124_0
    replace hx124_1:=(HB.out.cell (World.block_lt_of_cell? w _ hx124_1)).trans hx124_1
    replace p124:=eq_true p124
    replace q124:=eq_true q124
    refine start_ (n:=25) (S:=fun w' => w'.cell? ⟨gb103,0,none⟩ = some (.slice A0_0 l0_0.length c0_0) ∧ w'.cell? ⟨gb103,1,none⟩ = some (.slice A0_1 l0_1.length c0_1) ∧ w'.cell? ⟨gb103,2,none⟩ = some (.slice (some ad119) l0_2.length c0_2) ∧ w'.cell? (ad119.add ((x7_4).toNat * 2)) = some (.string ((rd_T23 l0_2 x7_4).f0)) ∧ w'.cell? ⟨(ad119.add ((x7_4).toNat * 2)).block,(ad119.add ((x7_4).toNat * 2)).off + 1,none⟩ = some (.string ((rd_T23 l0_2 x7_4).f1))) (ds:=[]) #[false,false,false,false,false,false,false,false,false,false,false,false,false,false,false,false,false,false,false,false,false,false,false,false,false] (by kernel_rfl) rfl rfl ⟨(blk_cell BK103.out 0).trans rfl,(blk_cell BK103.out 1).trans rfl,(blk_cell BK103.out 2).trans rfl,((HB.out.cell (World.block_lt_of_cell? w _ hw124_0)).trans hw124_0),((HB.out.cell (World.block_lt_of_cell? w _ hw124_1)).trans hw124_1)⟩ (fun hHeld => ?_);refine with_tabW sr29_Right.tab28 sr29_Right.bits28 (fun HT_ HW_ => ?_)
    generalize w66.drew = w72 at BK103 HB hx124_0 hx124_1 hHeld ⊢
    refine pS (i:=0) (N:=some 137) ?_
    refine one_ (i:=1) (N:=some 138) #[true,true,false,false,false,false,false,false,false,false,false,false,false,false,false,false,false,false,false,false,false,false,false,false,false] rfl rfl (one_of HT_.out (by kernel_rfl)) (by decide) (fun K hK => ?_)
    refine goes_ Tryz.func59 (by kernel_rfl) rfl #[.string t120] (by rfl) rfl rfl eA ?_
    with_reducible refine (sr04_Name.calls t120 true _ A67.out).mono ?_
    rintro e w' ⟨rfl,⟨nd,rfl⟩⟩
    refine ⟨_,rfl,?_⟩
    refine hK.out _ _ ⟨(blk_cell BK103.out 0).trans rfl,(blk_cell BK103.out 1).trans rfl,(blk_cell BK103.out 2).trans rfl,((HB.out.cell (World.block_lt_of_cell? w _ hw124_0)).trans hw124_0),((HB.out.cell (World.block_lt_of_cell? w _ hw124_1)).trans hw124_1)⟩ (fun hHeld => ?_)
    clear hK K
    refine norm_ (a':=?_) ?_ ?_
    rotate_left
    · show Act.put _ (some 138) _ = _
      simp only [Act.put,List.setIfInBounds_toArray,List.set_cons_zero,List.set_cons_succ,i64_w,i32_w]
      rfl
    refine pS (i:=2) (N:=some 139) ?_
    refine pS (i:=3) (N:=some 140) ?_
    refine pS (i:=4) (N:=some 141) ?_
    refine pS (i:=6) (N:=some 143) ?_
    refine tS (i:=5) (N:=some 142) rfl rfl hHeld HT_.out HW_.out (by kernel_rfl) (Or.inl ⟨by rfl,by rintro w' ⟨s0,s1,s2,s3,s4⟩;go_simp;with_reducible rfl⟩) ?_
    refine pS (i:=7) (N:=some 144) ?_
    refine pS (i:=8) (N:=some 145) ?_
    refine tS (i:=9) (N:=some 146) rfl rfl hHeld HT_.out HW_.out (by kernel_rfl) (Or.inl ⟨by rfl,by rintro w' ⟨s0,s1,s2,s3,s4⟩;go_simp;with_reducible rfl⟩) ?_
    refine one_ (i:=10) (N:=some 147) #[true,true,true,true,true,true,true,true,true,true,true,false,false,false,false,false,false,false,false,false,false,false,false,false,false] rfl rfl (one_of HT_.out (by kernel_rfl)) (by decide) (fun K hK => ?_)
    refine goes_ Tryz.func59 (by kernel_rfl) rfl #[.string ((rd_T23 l0_2 x7_4).f1)] (by rfl) rfl rfl eA ?_
    with_reducible refine (sr04_Name.calls ((rd_T23 l0_2 x7_4).f1) true _ A69.out).mono ?_
    rintro e w' ⟨rfl,⟨nd,rfl⟩⟩
    refine ⟨_,rfl,?_⟩
    refine hK.out _ _ ⟨(blk_cell BK103.out 0).trans rfl,(blk_cell BK103.out 1).trans rfl,(blk_cell BK103.out 2).trans rfl,((HB.out.cell (World.block_lt_of_cell? w _ hw124_0)).trans hw124_0),((HB.out.cell (World.block_lt_of_cell? w _ hw124_1)).trans hw124_1)⟩ (fun hHeld => ?_)
    clear hK K
    refine norm_ (a':=?_) ?_ ?_
    rotate_left
    · show Act.put _ (some 147) _ = _
      simp only [Act.put,List.setIfInBounds_toArray,List.set_cons_zero,List.set_cons_succ,i64_w,i32_w]
      rfl
    refine pS (i:=11) (N:=some 148) ?_
    refine pS (i:=12) (N:=some 149) ?_
    refine pS (i:=13) (N:=some 150) ?_
    refine pS (i:=14) (N:=some 151) ?_
    refine pS (i:=15) (N:=some 152) ?_
    refine pS (i:=16) (N:=some 153) ?_
    refine pS (i:=17) (N:=some 154) ?_
    refine pU (i:=18) (N:=some 155) ?_
    refine pU (i:=19) (N:=some 156) ?_
    refine pU (i:=20) (N:=some 157) ?_
    refine pU (i:=21) (N:=some 158) ?_
    refine pU (i:=22) (N:=some 159) ?_
    refine pU (i:=23) (N:=some 160) ?_
    refine pS (i:=24) (N:=some 161) ?_
    refine done_ (done_of HT_.out (by kernel_rfl)) ?_
    try go_wp2
    go_meet
    case rel => exact ⟨_,(true),eS,H',⟨by have:=HJ1.out;have:=HK2.out;have:=HK3.out;have:=HK4.out;first|omega|exact Nat.le_refl _⟩,⟨KU BK103.out⟩,⟨bH⟩⟩
  rw [if_neg c71] at H
  have c71b0 : (t122.toList == ([] : List UInt8)) = false:=beq_eq_false_iff_ne.mpr c71
  have c71b1 : (t122.toList != ([] : List UInt8)) = true:=bne_iff_ne.mpr c71
  (first|rw [c71b0]|rw [c71b1]|(simp only [i64_w,i32_w];rw [c71b0])|skip)
  replace H:=Option.bind_eq_some_iff.mp H
  obtain ⟨t126,A730,H⟩:=H
  have A73:=aq A730
  clear A730
  replace H:=Option.bind_eq_some_iff.mp H
  obtain ⟨t129,A740,H⟩:=H
  have A74:=aq A740
  clear A740
  have H':=aq H
  clear H
  try go_wp2
  replace BK103:=aq (blk_drew BK103.out)
  replace HB:=aq (below_drew1 HB.out)
  have p124 : 0 ≤ (x7_4 : Int):=of_decide_eq_true aS
  have q124 : x7_4 < (l0_2.length : Int):=of_decide_eq_true aS
  obtain ⟨ad124,e124,hx124_0,hx124_1⟩:=at_T23 HR0_2.out x7_4 p124 q124
  have hw124_1:=hx124_1
  have hw124_0:=hx124_0
  obtain rfl : ad119 = ad124:=(by injection e124)
  replace hx124_0:=(HB.out.cell (World.block_lt_of_cell? w _ hx124_0)).trans hx124_0
  replace hx124_1:=(HB.out.cell (World.block_lt_of_cell? w _ hx124_1)).trans hx124_1
  replace p124:=eq_true p124
  replace q124:=eq_true q124
  refine start_ (n:=25) (S:=fun w' => w'.cell? ⟨gb103,0,none⟩ = some (.slice A0_0 l0_0.length c0_0) ∧ w'.cell? ⟨gb103,1,none⟩ = some (.slice A0_1 l0_1.length c0_1) ∧ w'.cell? ⟨gb103,2,none⟩ = some (.slice (some ad119) l0_2.length c0_2) ∧ w'.cell? (ad119.add ((x7_4).toNat * 2)) = some (.string ((rd_T23 l0_2 x7_4).f0)) ∧ w'.cell? ⟨(ad119.add ((x7_4).toNat * 2)).block,(ad119.add ((x7_4).toNat * 2)).off + 1,none⟩ = some (.string ((rd_T23 l0_2 x7_4).f1))) (ds:=[]) #[false,false,false,false,false,false,false,false,false,false,false,false,false,false,false,false,false,false,false,false,false,false,false,false,false] (by kernel_rfl) rfl rfl ⟨(blk_cell BK103.out 0).trans rfl,(blk_cell BK103.out 1).trans rfl,(blk_cell BK103.out 2).trans rfl,((HB.out.cell (World.block_lt_of_cell? w _ hw124_0)).trans hw124_0),((HB.out.cell (World.block_lt_of_cell? w _ hw124_1)).trans hw124_1)⟩ (fun hHeld => ?_);refine with_tabW sr29_Right.tab28 sr29_Right.bits28 (fun HT_ HW_ => ?_)
  generalize w66.drew = w75 at BK103 HB hx124_0 hx124_1 hHeld ⊢
  refine pS (i:=0) (N:=some 137) ?_
  refine one_ (i:=1) (N:=some 138) #[true,true,false,false,false,false,false,false,false,false,false,false,false,false,false,false,false,false,false,false,false,false,false,false,false] rfl rfl (one_of HT_.out (by kernel_rfl)) (by decide) (fun K hK => ?_)
  refine goes_ Tryz.func59 (by kernel_rfl) rfl #[.string t120] (by rfl) rfl rfl eA ?_
  with_reducible refine (sr04_Name.calls t120 true _ A67.out).mono ?_
  rintro e w' ⟨rfl,⟨nd,rfl⟩⟩
  refine ⟨_,rfl,?_⟩
  refine hK.out _ _ ⟨(blk_cell BK103.out 0).trans rfl,(blk_cell BK103.out 1).trans rfl,(blk_cell BK103.out 2).trans rfl,((HB.out.cell (World.block_lt_of_cell? w _ hw124_0)).trans hw124_0),((HB.out.cell (World.block_lt_of_cell? w _ hw124_1)).trans hw124_1)⟩ (fun hHeld => ?_)
  clear hK K
  refine norm_ (a':=?_) ?_ ?_
  rotate_left
  · show Act.put _ (some 138) _ = _
    simp only [Act.put,List.setIfInBounds_toArray,List.set_cons_zero,List.set_cons_succ,i64_w,i32_w]
    rfl
  refine pS (i:=2) (N:=some 139) ?_
  refine pS (i:=3) (N:=some 140) ?_
  refine pS (i:=4) (N:=some 141) ?_
  refine pS (i:=6) (N:=some 143) ?_
  refine tS (i:=5) (N:=some 142) rfl rfl hHeld HT_.out HW_.out (by kernel_rfl) (Or.inl ⟨by rfl,by rintro w' ⟨s0,s1,s2,s3,s4⟩;go_simp;with_reducible rfl⟩) ?_
  refine pS (i:=7) (N:=some 144) ?_
  refine pS (i:=8) (N:=some 145) ?_
  refine tS (i:=9) (N:=some 146) rfl rfl hHeld HT_.out HW_.out (by kernel_rfl) (Or.inl ⟨by rfl,by rintro w' ⟨s0,s1,s2,s3,s4⟩;go_simp;with_reducible rfl⟩) ?_
  refine one_ (i:=10) (N:=some 147) #[true,true,true,true,true,true,true,true,true,true,true,false,false,false,false,false,false,false,false,false,false,false,false,false,false] rfl rfl (one_of HT_.out (by kernel_rfl)) (by decide) (fun K hK => ?_)
  refine goes_ Tryz.func59 (by kernel_rfl) rfl #[.string ((rd_T23 l0_2 x7_4).f1)] (by rfl) rfl rfl eA ?_
  with_reducible refine (sr04_Name.calls ((rd_T23 l0_2 x7_4).f1) true _ A69.out).mono ?_
  rintro e w' ⟨rfl,⟨nd,rfl⟩⟩
  refine ⟨_,rfl,?_⟩
  refine hK.out _ _ ⟨(blk_cell BK103.out 0).trans rfl,(blk_cell BK103.out 1).trans rfl,(blk_cell BK103.out 2).trans rfl,((HB.out.cell (World.block_lt_of_cell? w _ hw124_0)).trans hw124_0),((HB.out.cell (World.block_lt_of_cell? w _ hw124_1)).trans hw124_1)⟩ (fun hHeld => ?_)
  clear hK K
  refine norm_ (a':=?_) ?_ ?_
  rotate_left
  · show Act.put _ (some 147) _ = _
    simp only [Act.put,List.setIfInBounds_toArray,List.set_cons_zero,List.set_cons_succ,i64_w,i32_w]
    rfl
  refine pS (i:=11) (N:=some 148) ?_
  refine pS (i:=12) (N:=some 149) ?_
  refine pS (i:=13) (N:=some 150) ?_
  refine pS (i:=14) (N:=some 151) ?_
  refine pS (i:=15) (N:=some 152) ?_
  refine pS (i:=16) (N:=some 153) ?_
  refine pS (i:=17) (N:=some 154) ?_
  refine pS (i:=18) (N:=some 155) ?_
  refine pS (i:=20) (N:=some 157) ?_
  refine tS (i:=19) (N:=some 156) rfl rfl hHeld HT_.out HW_.out (by kernel_rfl) (Or.inl ⟨by rfl,by rintro w' ⟨s0,s1,s2,s3,s4⟩;go_simp;with_reducible rfl⟩) ?_
  refine one_ (i:=21) (N:=some 158) #[true,true,true,true,true,true,true,true,true,true,true,true,true,true,true,true,true,true,true,true,true,true,false,false,false] rfl rfl (one_of HT_.out (by kernel_rfl)) (by decide) (fun K hK => ?_)
  refine goes_ Tryz.func63 (by kernel_rfl) rfl #[.string t121] (by rfl) rfl rfl eA ?_
  with_reducible refine (sr06_Classes.calls t121 t126 _ A73.out).mono ?_
  rintro e w76 ⟨v127,rfl,ho0,hb⟩
  refine ⟨_,rfl,?_⟩
  have HO128:=aq (Kd.R_lower ho0 (below_size bH))
  replace BK103:=KN BK103 hb
  replace HB:=aq (below_step bH hb)
  (try clear hb)
  (try clear hb2)
  (try clear hk)
  (try clear hi)
  (try clear ho0)
  obtain ⟨Ao77,co77,eo77⟩:=Kd.R_slice HO128.out
  (first|subst eo77|(injection eo77 with f1_ f2_ f3_;have f4_:=f1_.symm;have f5_:=f3_.symm;clear f1_ f2_ f3_;subst f4_;subst f5_))
  refine hK.out _ _ ⟨(blk_cell BK103.out 0).trans rfl,(blk_cell BK103.out 1).trans rfl,(blk_cell BK103.out 2).trans rfl,((HB.out.cell (World.block_lt_of_cell? w _ hw124_0)).trans hw124_0),((HB.out.cell (World.block_lt_of_cell? w _ hw124_1)).trans hw124_1)⟩ (fun hHeld => ?_)
  clear hK K
  refine norm_ (a':=?_) ?_ ?_
  rotate_left
  · show Act.put _ (some 158) _ = _
    simp only [Act.put,List.setIfInBounds_toArray,List.set_cons_zero,List.set_cons_succ,i64_w,i32_w]
    rfl
  refine one_ (i:=22) (N:=some 159) #[true,true,true,true,true,true,true,true,true,true,true,true,true,true,true,true,true,true,true,true,true,true,true,false,false] rfl rfl (one_of HT_.out (by kernel_rfl)) (by decide) (fun K hK => ?_)
  refine goes_ Tryz.func62 (by kernel_rfl) rfl #[.slice A0_0 l0_0.length c0_0,.slice Ao77 t126.length co77] (by rfl) rfl rfl eA ?_
  with_reducible refine (sr29_named.calls k4 _ _ l0_0 _ _ t126 t129 _ ?side1 ?side2 ?side3 ?side4 A74.out).mono ?_
  (case side1 => exact CU HR0_0)
  (case side2 => exact HC0_0.out)
  (case side3 => repeat (first|exact (Kd.R_reads' HO128.out).2.2|(with_reducible refine Kd.C_alloc ?_ _)|(with_reducible refine Kd.C_drewN ?_ _)|(with_reducible refine Kd.C_drew ?_)))
  (case side4 => exact (Kd.R_reads' HO128.out).2.1)
  rintro e w' ⟨rfl,⟨nd,rfl⟩⟩
  refine ⟨_,rfl,?_⟩
  refine hK.out _ _ ⟨(blk_cell BK103.out 0).trans rfl,(blk_cell BK103.out 1).trans rfl,(blk_cell BK103.out 2).trans rfl,((HB.out.cell (World.block_lt_of_cell? w _ hw124_0)).trans hw124_0),((HB.out.cell (World.block_lt_of_cell? w _ hw124_1)).trans hw124_1)⟩ (fun hHeld => ?_)
  clear hK K
  refine norm_ (a':=?_) ?_ ?_
  rotate_left
  · show Act.put _ (some 159) _ = _
    simp only [Act.put,List.setIfInBounds_toArray,List.set_cons_zero,List.set_cons_succ,i64_w,i32_w]
    rfl
  refine pS (i:=23) (N:=some 160) ?_
  refine pS (i:=24) (N:=some 161) ?_
  refine done_ (done_of HT_.out (by kernel_rfl)) ?_
  try go_wp2
  go_meet
  case rel => exact ⟨_,(!t129),eS,H',⟨by have:=HJ1.out;have:=HK2.out;have:=HK3.out;have:=HK4.out;first|omega|exact Nat.le_refl _⟩,⟨KU BK103.out⟩,⟨bH⟩⟩
 case rest =>
 clear HC64
 obtain ⟨kq,x161_63,rfl,HA,HJ63,BK103,HB⟩:=hcut
 cases kq with
 | zero => exact absurd HA.out (by simp [sr29_Right.j8])
 | succ kj63 =>
 have H:=HA.out
 clear HA
 simp only [sr29_Right.j8] at H
 by_cases c80 : x161_63 = true
 · subst c80
   have H1 : (some false) = some r:=by rw [if_pos rfl] at H;exact H
   clear H
   have H:=H1
   clear H1
   obtain rfl:=Option.some.inj H
   go_wp2
   go_ret
   exact ⟨eR,bH⟩
 replace c80:=Bool.eq_false_iff.mpr c80
 subst c80
 have H1 : (sr29_Right.l5 kj63 x7_4 t122 0 l0_0 l0_1 l0_2) = some r:=by rw [if_neg (show ¬ (false = true) by decide)] at H;exact H
 clear H
 have H:=H1
 clear H1
 have H':=aq H
 clear H
 go_wp2
 go_loopg [11] kj63 (fun kq v11 w' => ∃ (x11_6 : Int),v11 = .int .i64 x11_6 ∧ Aside0 (sr29_Right.l5 kq x7_4 t122 x11_6 l0_0 l0_1 l0_2 = some r) ∧ Aside0 (kq ≤ kj63) ∧ Aside0 (w'.heap[gb103]? = some (.cells #[(.slice A0_0 l0_0.length c0_0),(.slice A0_1 l0_1.length c0_1),(.slice (some ad119) l0_2.length c0_2)] 34 (0,0))) ∧ Aside0 (Below w.heap.size w w'))
 case atStart => exact ⟨(0),eS,H',⟨Nat.le_refl _⟩,⟨KU BK103.out⟩,⟨bH⟩⟩
 case round =>
 clear H'
 try clear c80
 obtain ⟨x11_6,rfl,HA,HK6,BK103,HB⟩:=hrel
 cases gk with
 | zero => exact absurd HA.out (by simp [sr29_Right.l5])
 | succ k6 =>
 have H:=HA.out
 clear HA
 simp only [sr29_Right.l5] at H
 by_cases c81 : x11_6 < x7_4
 rotate_left
 · rw [if_neg c81] at H
   have c81b0 : decide (x11_6 < x7_4) = false:=decide_eq_false c81
   clear c81
   have H':=aq H
   clear H
   go_wp2
   go_roundg k6
   case measure => have:=HJ1.out;have:=HK2.out;have:=HK3.out;have:=HK4.out;have:=HJ63.out;have:=HK6.out;omega
   case rel => exact ⟨(wrap64 (x7_4 + 1)),eS,H',⟨by have:=HJ1.out;have:=HK2.out;have:=HK3.out;have:=HK4.out;have:=HJ63.out;have:=HK6.out;omega⟩,⟨KU BK103.out⟩,⟨bH⟩⟩
 rw [if_pos c81] at H
 have c81b0 : decide (x11_6 < x7_4) = true:=decide_eq_true c81
 clear c81
 by_cases c82 : 0 ≤ x11_6
 rotate_left
 · rw [if_neg c82] at H
   exact absurd H (by simp)
 rw [if_pos c82] at H
 have c82b0 : decide (0 ≤ x11_6) = true:=decide_eq_true c82
 clear c82
 by_cases c83 : x11_6 < (l0_2.length : Int)
 rotate_left
 · rw [if_neg c83] at H
   exact absurd H (by simp)
 rw [if_pos c83] at H
 have c83b0 : decide (x11_6 < (l0_2.length : Int)) = true:=decide_eq_true c83
 clear c83
 replace H:=Option.bind_eq_some_iff.mp H
 obtain ⟨⟨t131,t132⟩,A840,H⟩:=H
 replace H : (if 0 ≤ x7_4 then (if x7_4 < (l0_2.length : Int) then (if ((rd_T23 l0_2 x11_6).f1).toList = ((rd_T23 l0_2 x7_4).f1).toList then ((sr06_Renamed.f t132 l0_0).bind fun t135 => (if t135.toList = t122.toList then (some false) else (sr29_Right.l5 k6 x7_4 t122 (wrap64 (x11_6 + 1)) l0_0 l0_1 l0_2))) else (sr29_Right.l5 k6 x7_4 t122 (wrap64 (x11_6 + 1)) l0_0 l0_1 l0_2)) else (none)) else (none)) = some r:=H
 have A84:=aq A840
 clear A840
 by_cases c85 : 0 ≤ x7_4
 rotate_left
 · rw [if_neg c85] at H
   exact absurd H (by simp)
 rw [if_pos c85] at H
 have c85b0 : decide (0 ≤ x7_4) = true:=decide_eq_true c85
 clear c85
 by_cases c86 : x7_4 < (l0_2.length : Int)
 rotate_left
 · rw [if_neg c86] at H
   exact absurd H (by simp)
 rw [if_pos c86] at H
 have c86b0 : decide (x7_4 < (l0_2.length : Int)) = true:=decide_eq_true c86
 clear c86
 by_cases c87 : ((rd_T23 l0_2 x11_6).f1).toList = ((rd_T23 l0_2 x7_4).f1).toList
 rotate_left
 · rw [if_neg c87] at H
   have c87b0 : (((rd_T23 l0_2 x11_6).f1).toList == ((rd_T23 l0_2 x7_4).f1).toList) = false:=beq_eq_false_iff_ne.mpr c87
   have c87b1 : (((rd_T23 l0_2 x11_6).f1).toList != ((rd_T23 l0_2 x7_4).f1).toList) = true:=bne_iff_ne.mpr c87
   have H':=aq H
   clear H
   have hcz96_0 : wr.cell? ⟨gb103,0,none⟩ = some (.slice A0_0 l0_0.length c0_0):=(blk_cell BK103.out 0).trans rfl
   have hcz96_1 : wr.cell? ⟨gb103,1,none⟩ = some (.slice A0_1 l0_1.length c0_1):=(blk_cell BK103.out 1).trans rfl
   have hcz96_2 : wr.cell? ⟨gb103,2,none⟩ = some (.slice (some ad119) l0_2.length c0_2):=(blk_cell BK103.out 2).trans rfl
   have hfz96_0:=blk_frozen BK103.out 0
   have hfz96_1:=blk_frozen BK103.out 1
   have hfz96_2:=blk_frozen BK103.out 2
   have p130 : 0 ≤ (x11_6 : Int):=of_decide_eq_true aS
   have q130 : x11_6 < (l0_2.length : Int):=of_decide_eq_true aS
   obtain ⟨ad130,e130,hx130_0,hx130_1⟩:=at_T23 HR0_2.out x11_6 p130 q130
   obtain rfl : ad119 = ad130:=(by injection e130)
   replace hx130_0:=(HB.out.cell (World.block_lt_of_cell? w _ hx130_0)).trans hx130_0
   replace hx130_1:=(HB.out.cell (World.block_lt_of_cell? w _ hx130_1)).trans hx130_1
   replace p130:=eq_true p130
   replace q130:=eq_true q130
   try go_wp2_with (first|((with_reducible refine gate_callee (f:=60) rfl ?_);refine goesL_ (some 174) rfl rfl Tryz.func60 (by kernel_rfl) rfl #[.string ((rd_T23 l0_2 x11_6).f0)] rfl eA ?_;(with_reducible refine (sr29_cut.calls k6 ((rd_T23 l0_2 x11_6).f0) t131 t132 _ A84.out).mono ?_);rintro e w' ⟨rfl,⟨nd,rfl⟩⟩;refine ⟨_,rfl,?_⟩))
   (try (rw [drewN_self wr];generalize hq_ : World.drewN wr _ = wr;have n0_ : Aside0 (wr.heap[gb103]? = some (.cells #[.slice A0_0 l0_0.length c0_0,.slice A0_1 l0_1.length c0_1,.slice (some ad119) l0_2.length c0_2] 34 (0,0))):=⟨by rw [← hq_];exact (KU BK103.out)⟩;have n1_ : Aside0 (Below w.heap.size w wr):=⟨by rw [← hq_];exact bH⟩;clear BK103 HB hq_;have BK103:=n0_;have HB:=n1_;clear n0_ n1_))
   replace BK103:=aq (blk_drew BK103.out)
   replace HB:=aq (below_drew1 HB.out)
   have p133 : 0 ≤ (x11_6 : Int):=of_decide_eq_true aS
   have q133 : x11_6 < (l0_2.length : Int):=of_decide_eq_true aS
   obtain ⟨ad133,e133,hx133_0,hx133_1⟩:=at_T23 HR0_2.out x11_6 p133 q133
   have hw133_1:=hx133_1
   have hw133_0:=hx133_0
   obtain rfl : ad119 = ad133:=(by injection e133)
   replace hx133_0:=(HB.out.cell (World.block_lt_of_cell? w _ hx133_0)).trans hx133_0
   replace hx133_1:=(HB.out.cell (World.block_lt_of_cell? w _ hx133_1)).trans hx133_1
   replace p133:=eq_true p133
   replace q133:=eq_true q133
   have p134 : 0 ≤ (x7_4 : Int):=of_decide_eq_true aS
   have q134 : x7_4 < (l0_2.length : Int):=of_decide_eq_true aS
   obtain ⟨ad134,e134,hx134_0,hx134_1⟩:=at_T23 HR0_2.out x7_4 p134 q134
   have hw134_1:=hx134_1
   have hw134_0:=hx134_0
   obtain rfl : ad119 = ad134:=(by injection e134)
   replace hx134_0:=(HB.out.cell (World.block_lt_of_cell? w _ hx134_0)).trans hx134_0
   replace hx134_1:=(HB.out.cell (World.block_lt_of_cell? w _ hx134_1)).trans hx134_1
   replace p134:=eq_true p134
   replace q134:=eq_true q134
   refine start_ (n:=21) (S:=fun w' => w'.cell? ⟨gb103,0,none⟩ = some (.slice A0_0 l0_0.length c0_0) ∧ w'.cell? ⟨gb103,1,none⟩ = some (.slice A0_1 l0_1.length c0_1) ∧ w'.cell? ⟨gb103,2,none⟩ = some (.slice (some ad119) l0_2.length c0_2) ∧ w'.cell? (ad119.add ((x11_6).toNat * 2)) = some (.string ((rd_T23 l0_2 x11_6).f0)) ∧ w'.cell? ⟨(ad119.add ((x11_6).toNat * 2)).block,(ad119.add ((x11_6).toNat * 2)).off + 1,none⟩ = some (.string ((rd_T23 l0_2 x11_6).f1)) ∧ w'.cell? (ad119.add ((x7_4).toNat * 2)) = some (.string ((rd_T23 l0_2 x7_4).f0)) ∧ w'.cell? ⟨(ad119.add ((x7_4).toNat * 2)).block,(ad119.add ((x7_4).toNat * 2)).off + 1,none⟩ = some (.string ((rd_T23 l0_2 x7_4).f1))) (ds:=[]) #[false,false,false,false,false,false,false,false,false,false,false,false,false,false,false,false,false,false,false,false,false] (by kernel_rfl) rfl rfl ⟨(blk_cell BK103.out 0).trans rfl,(blk_cell BK103.out 1).trans rfl,(blk_cell BK103.out 2).trans rfl,((HB.out.cell (World.block_lt_of_cell? w _ hw133_0)).trans hw133_0),((HB.out.cell (World.block_lt_of_cell? w _ hw133_1)).trans hw133_1),((HB.out.cell (World.block_lt_of_cell? w _ hw134_0)).trans hw134_0),((HB.out.cell (World.block_lt_of_cell? w _ hw134_1)).trans hw134_1)⟩ (fun hHeld => ?_);refine with_tabW sr29_Right.tab34 sr29_Right.bits34 (fun HT_ HW_ => ?_)
   generalize wr.drew = w97 at BK103 HB hx133_0 hx133_1 hx134_0 hx134_1 hHeld ⊢
   refine pS (i:=0) (N:=some 177) ?_
   refine pS (i:=2) (N:=some 179) ?_
   refine pS (i:=6) (N:=some 183) ?_
   refine pS (i:=8) (N:=some 185) ?_
   refine tS (i:=1) (N:=some 178) rfl rfl hHeld HT_.out HW_.out (by kernel_rfl) (Or.inl ⟨by rfl,by rintro w' ⟨s0,s1,s2,s3,s4,s5,s6⟩;go_simp;with_reducible rfl⟩) ?_
   refine pS (i:=3) (N:=some 180) ?_
   refine pS (i:=4) (N:=some 181) ?_
   refine tS (i:=5) (N:=some 182) rfl rfl hHeld HT_.out HW_.out (by kernel_rfl) (Or.inl ⟨by rfl,by rintro w' ⟨s0,s1,s2,s3,s4,s5,s6⟩;go_simp;with_reducible rfl⟩) ?_
   refine tS (i:=7) (N:=some 184) rfl rfl hHeld HT_.out HW_.out (by kernel_rfl) (Or.inl ⟨by rfl,by rintro w' ⟨s0,s1,s2,s3,s4,s5,s6⟩;go_simp;with_reducible rfl⟩) ?_
   refine pS (i:=9) (N:=some 186) ?_
   refine pS (i:=10) (N:=some 187) ?_
   refine tS (i:=11) (N:=some 188) rfl rfl hHeld HT_.out HW_.out (by kernel_rfl) (Or.inl ⟨by rfl,by rintro w' ⟨s0,s1,s2,s3,s4,s5,s6⟩;go_simp;with_reducible rfl⟩) ?_
   refine pS (i:=12) (N:=some 189) ?_
   refine pS (i:=13) (N:=some 190) ?_
   refine pU (i:=14) (N:=some 191) ?_
   refine pU (i:=15) (N:=some 192) ?_
   refine pU (i:=16) (N:=some 193) ?_
   refine pU (i:=17) (N:=some 194) ?_
   refine pU (i:=18) (N:=some 195) ?_
   refine pU (i:=19) (N:=some 196) ?_
   refine pS (i:=20) (N:=some 197) ?_
   refine done_ (done_of HT_.out (by kernel_rfl)) ?_
   try go_wp2
   go_roundg k6
   case measure => have:=HJ1.out;have:=HK2.out;have:=HK3.out;have:=HK4.out;have:=HJ63.out;have:=HK6.out;omega
   case rel => exact ⟨(wrap64 (x11_6 + 1)),eS,H',⟨by have:=HJ1.out;have:=HK2.out;have:=HK3.out;have:=HK4.out;have:=HJ63.out;have:=HK6.out;omega⟩,⟨KU BK103.out⟩,⟨bH⟩⟩
 rw [if_pos c87] at H
 have c87b0 : (((rd_T23 l0_2 x11_6).f1).toList == ((rd_T23 l0_2 x7_4).f1).toList) = true:=beq_iff_eq.mpr c87
 have c87b1 : (((rd_T23 l0_2 x11_6).f1).toList != ((rd_T23 l0_2 x7_4).f1).toList) = false:=bne_eq_false_iff_eq.mpr c87
 clear c87
 replace H:=Option.bind_eq_some_iff.mp H
 obtain ⟨t135,A880,H⟩:=H
 have A88:=aq A880
 clear A880
 by_cases c89 : t135.toList = t122.toList
 · rw [if_pos c89] at H
   have c89b0 : (t135.toList == t122.toList) = true:=beq_iff_eq.mpr c89
   have c89b1 : (t135.toList != t122.toList) = false:=bne_eq_false_iff_eq.mpr c89
   clear c89
   obtain rfl:=Option.some.inj H
   have hcz90_0 : wr.cell? ⟨gb103,0,none⟩ = some (.slice A0_0 l0_0.length c0_0):=(blk_cell BK103.out 0).trans rfl
   have hcz90_1 : wr.cell? ⟨gb103,1,none⟩ = some (.slice A0_1 l0_1.length c0_1):=(blk_cell BK103.out 1).trans rfl
   have hcz90_2 : wr.cell? ⟨gb103,2,none⟩ = some (.slice (some ad119) l0_2.length c0_2):=(blk_cell BK103.out 2).trans rfl
   have hfz90_0:=blk_frozen BK103.out 0
   have hfz90_1:=blk_frozen BK103.out 1
   have hfz90_2:=blk_frozen BK103.out 2
   have p130 : 0 ≤ (x11_6 : Int):=of_decide_eq_true aS
   have q130 : x11_6 < (l0_2.length : Int):=of_decide_eq_true aS
   obtain ⟨ad130,e130,hx130_0,hx130_1⟩:=at_T23 HR0_2.out x11_6 p130 q130
   obtain rfl : ad119 = ad130:=(by injection e130)
   replace hx130_0:=(HB.out.cell (World.block_lt_of_cell? w _ hx130_0)).trans hx130_0
   replace hx130_1:=(HB.out.cell (World.block_lt_of_cell? w _ hx130_1)).trans hx130_1
   replace p130:=eq_true p130
   replace q130:=eq_true q130
   try go_wp2_with (first|((with_reducible refine gate_callee (f:=60) rfl ?_);refine goesL_ (some 174) rfl rfl Tryz.func60 (by kernel_rfl) rfl #[.string ((rd_T23 l0_2 x11_6).f0)] rfl eA ?_;(with_reducible refine (sr29_cut.calls k6 ((rd_T23 l0_2 x11_6).f0) t131 t132 _ A84.out).mono ?_);rintro e w' ⟨rfl,⟨nd,rfl⟩⟩;refine ⟨_,rfl,?_⟩))
   (try (rw [drewN_self wr];generalize hq_ : World.drewN wr _ = wr;have n0_ : Aside0 (wr.heap[gb103]? = some (.cells #[.slice A0_0 l0_0.length c0_0,.slice A0_1 l0_1.length c0_1,.slice (some ad119) l0_2.length c0_2] 34 (0,0))):=⟨by rw [← hq_];exact (KU BK103.out)⟩;have n1_ : Aside0 (Below w.heap.size w wr):=⟨by rw [← hq_];exact bH⟩;clear BK103 HB hq_;have BK103:=n0_;have HB:=n1_;clear n0_ n1_))
   replace BK103:=aq (blk_drew BK103.out)
   replace HB:=aq (below_drew1 HB.out)
   have p133 : 0 ≤ (x11_6 : Int):=of_decide_eq_true aS
   have q133 : x11_6 < (l0_2.length : Int):=of_decide_eq_true aS
   obtain ⟨ad133,e133,hx133_0,hx133_1⟩:=at_T23 HR0_2.out x11_6 p133 q133
   have hw133_1:=hx133_1
   have hw133_0:=hx133_0
   obtain rfl : ad119 = ad133:=(by injection e133)
   replace hx133_0:=(HB.out.cell (World.block_lt_of_cell? w _ hx133_0)).trans hx133_0
   replace hx133_1:=(HB.out.cell (World.block_lt_of_cell? w _ hx133_1)).trans hx133_1
   replace p133:=eq_true p133
   replace q133:=eq_true q133
   have p134 : 0 ≤ (x7_4 : Int):=of_decide_eq_true aS
   have q134 : x7_4 < (l0_2.length : Int):=of_decide_eq_true aS
   obtain ⟨ad134,e134,hx134_0,hx134_1⟩:=at_T23 HR0_2.out x7_4 p134 q134
   have hw134_1:=hx134_1
   have hw134_0:=hx134_0
   obtain rfl : ad119 = ad134:=(by injection e134)
   replace hx134_0:=(HB.out.cell (World.block_lt_of_cell? w _ hx134_0)).trans hx134_0
   replace hx134_1:=(HB.out.cell (World.block_lt_of_cell? w _ hx134_1)).trans hx134_1
   replace p134:=eq_true p134
   replace q134:=eq_true q134
   refine start_ (n:=21) (S:=fun w' => w'.cell? ⟨gb103,0,none⟩ = some (.slice A0_0 l0_0.length c0_0) ∧ w'.cell? ⟨gb103,1,none⟩ = some (.slice A0_1 l0_1.length c0_1) ∧ w'.cell? ⟨gb103,2,none⟩ = some (.slice (some ad119) l0_2.length c0_2) ∧ w'.cell? (ad119.add ((x11_6).toNat * 2)) = some (.string ((rd_T23 l0_2 x11_6).f0)) ∧ w'.cell? ⟨(ad119.add ((x11_6).toNat * 2)).block,(ad119.add ((x11_6).toNat * 2)).off + 1,none⟩ = some (.string ((rd_T23 l0_2 x11_6).f1)) ∧ w'.cell? (ad119.add ((x7_4).toNat * 2)) = some (.string ((rd_T23 l0_2 x7_4).f0)) ∧ w'.cell? ⟨(ad119.add ((x7_4).toNat * 2)).block,(ad119.add ((x7_4).toNat * 2)).off + 1,none⟩ = some (.string ((rd_T23 l0_2 x7_4).f1))) (ds:=[]) #[false,false,false,false,false,false,false,false,false,false,false,false,false,false,false,false,false,false,false,false,false] (by kernel_rfl) rfl rfl ⟨(blk_cell BK103.out 0).trans rfl,(blk_cell BK103.out 1).trans rfl,(blk_cell BK103.out 2).trans rfl,((HB.out.cell (World.block_lt_of_cell? w _ hw133_0)).trans hw133_0),((HB.out.cell (World.block_lt_of_cell? w _ hw133_1)).trans hw133_1),((HB.out.cell (World.block_lt_of_cell? w _ hw134_0)).trans hw134_0),((HB.out.cell (World.block_lt_of_cell? w _ hw134_1)).trans hw134_1)⟩ (fun hHeld => ?_);refine with_tabW sr29_Right.tab34 sr29_Right.bits34 (fun HT_ HW_ => ?_)
   generalize wr.drew = w91 at BK103 HB hx133_0 hx133_1 hx134_0 hx134_1 hHeld ⊢
   refine pS (i:=0) (N:=some 177) ?_
   refine pS (i:=2) (N:=some 179) ?_
   refine pS (i:=6) (N:=some 183) ?_
   refine pS (i:=8) (N:=some 185) ?_
   refine tS (i:=1) (N:=some 178) rfl rfl hHeld HT_.out HW_.out (by kernel_rfl) (Or.inl ⟨by rfl,by rintro w' ⟨s0,s1,s2,s3,s4,s5,s6⟩;go_simp;with_reducible rfl⟩) ?_
   refine pS (i:=3) (N:=some 180) ?_
   refine pS (i:=4) (N:=some 181) ?_
   refine tS (i:=5) (N:=some 182) rfl rfl hHeld HT_.out HW_.out (by kernel_rfl) (Or.inl ⟨by rfl,by rintro w' ⟨s0,s1,s2,s3,s4,s5,s6⟩;go_simp;with_reducible rfl⟩) ?_
   refine tS (i:=7) (N:=some 184) rfl rfl hHeld HT_.out HW_.out (by kernel_rfl) (Or.inl ⟨by rfl,by rintro w' ⟨s0,s1,s2,s3,s4,s5,s6⟩;go_simp;with_reducible rfl⟩) ?_
   refine pS (i:=9) (N:=some 186) ?_
   refine pS (i:=10) (N:=some 187) ?_
   refine tS (i:=11) (N:=some 188) rfl rfl hHeld HT_.out HW_.out (by kernel_rfl) (Or.inl ⟨by rfl,by rintro w' ⟨s0,s1,s2,s3,s4,s5,s6⟩;go_simp;with_reducible rfl⟩) ?_
   refine pS (i:=12) (N:=some 189) ?_
   refine pS (i:=13) (N:=some 190) ?_
   refine pS (i:=14) (N:=some 191) ?_
   refine pS (i:=15) (N:=some 192) ?_
   refine pS (i:=18) (N:=some 195) ?_
   refine tS (i:=16) (N:=some 193) rfl rfl hHeld HT_.out HW_.out (by kernel_rfl) (Or.inl ⟨by rfl,by rintro w' ⟨s0,s1,s2,s3,s4,s5,s6⟩;go_simp;with_reducible rfl⟩) ?_
   refine one_ (i:=17) (N:=some 194) #[true,true,true,true,true,true,true,true,true,true,true,true,true,true,true,true,true,true,true,false,false] rfl rfl (one_of HT_.out (by kernel_rfl)) (by decide) (fun K hK => ?_)
   refine goes_ Tryz.func61 (by kernel_rfl) rfl #[.string t132,.slice A0_0 l0_0.length c0_0] (by rfl) rfl rfl eA ?_
   with_reducible refine (sr06_Renamed.calls t132 _ _ l0_0 t135 _ ?side1 ?side2 A88.out).mono ?_
   (case side1 => exact CU HR0_0)
   (case side2 => exact HC0_0.out)
   rintro e w92 ⟨rfl,hb⟩
   refine ⟨_,rfl,?_⟩
   replace BK103:=KN BK103 hb
   replace HB:=aq (below_step bH hb)
   (try clear hb)
   (try clear hb2)
   (try clear hk)
   (try clear hi)
   refine hK.out _ _ ⟨(blk_cell BK103.out 0).trans rfl,(blk_cell BK103.out 1).trans rfl,(blk_cell BK103.out 2).trans rfl,((HB.out.cell (World.block_lt_of_cell? w _ hw133_0)).trans hw133_0),((HB.out.cell (World.block_lt_of_cell? w _ hw133_1)).trans hw133_1),((HB.out.cell (World.block_lt_of_cell? w _ hw134_0)).trans hw134_0),((HB.out.cell (World.block_lt_of_cell? w _ hw134_1)).trans hw134_1)⟩ (fun hHeld => ?_)
   clear hK K
   refine norm_ (a':=?_) ?_ ?_
   rotate_left
   · show Act.put _ (some 194) _ = _
     simp only [Act.put,List.setIfInBounds_toArray,List.set_cons_zero,List.set_cons_succ,i64_w,i32_w]
     rfl
   refine pS (i:=19) (N:=some 196) ?_
   refine pS (i:=20) (N:=some 197) ?_
   refine done_ (done_of HT_.out (by kernel_rfl)) ?_
   try go_wp2
   go_ret
   exact ⟨eR,bH⟩
 rw [if_neg c89] at H
 have c89b0 : (t135.toList == t122.toList) = false:=beq_eq_false_iff_ne.mpr c89
 have c89b1 : (t135.toList != t122.toList) = true:=bne_iff_ne.mpr c89
 have H':=aq H
 clear H
 have hcz93_0 : wr.cell? ⟨gb103,0,none⟩ = some (.slice A0_0 l0_0.length c0_0):=(blk_cell BK103.out 0).trans rfl
 have hcz93_1 : wr.cell? ⟨gb103,1,none⟩ = some (.slice A0_1 l0_1.length c0_1):=(blk_cell BK103.out 1).trans rfl
 have hcz93_2 : wr.cell? ⟨gb103,2,none⟩ = some (.slice (some ad119) l0_2.length c0_2):=(blk_cell BK103.out 2).trans rfl
 have hfz93_0:=blk_frozen BK103.out 0
 have hfz93_1:=blk_frozen BK103.out 1
 have hfz93_2:=blk_frozen BK103.out 2
 have p130 : 0 ≤ (x11_6 : Int):=of_decide_eq_true aS
 have q130 : x11_6 < (l0_2.length : Int):=of_decide_eq_true aS
 obtain ⟨ad130,e130,hx130_0,hx130_1⟩:=at_T23 HR0_2.out x11_6 p130 q130
 obtain rfl : ad119 = ad130:=(by injection e130)
 replace hx130_0:=(HB.out.cell (World.block_lt_of_cell? w _ hx130_0)).trans hx130_0
 replace hx130_1:=(HB.out.cell (World.block_lt_of_cell? w _ hx130_1)).trans hx130_1
 replace p130:=eq_true p130
 replace q130:=eq_true q130
 try go_wp2_with (first|((with_reducible refine gate_callee (f:=60) rfl ?_);refine goesL_ (some 174) rfl rfl Tryz.func60 (by kernel_rfl) rfl #[.string ((rd_T23 l0_2 x11_6).f0)] rfl eA ?_;(with_reducible refine (sr29_cut.calls k6 ((rd_T23 l0_2 x11_6).f0) t131 t132 _ A84.out).mono ?_);rintro e w' ⟨rfl,⟨nd,rfl⟩⟩;refine ⟨_,rfl,?_⟩))
 (try (rw [drewN_self wr];generalize hq_ : World.drewN wr _ = wr;have n0_ : Aside0 (wr.heap[gb103]? = some (.cells #[.slice A0_0 l0_0.length c0_0,.slice A0_1 l0_1.length c0_1,.slice (some ad119) l0_2.length c0_2] 34 (0,0))):=⟨by rw [← hq_];exact (KU BK103.out)⟩;have n1_ : Aside0 (Below w.heap.size w wr):=⟨by rw [← hq_];exact bH⟩;clear BK103 HB hq_;have BK103:=n0_;have HB:=n1_;clear n0_ n1_))
 replace BK103:=aq (blk_drew BK103.out)
 replace HB:=aq (below_drew1 HB.out)
 have p133 : 0 ≤ (x11_6 : Int):=of_decide_eq_true aS
 have q133 : x11_6 < (l0_2.length : Int):=of_decide_eq_true aS
 obtain ⟨ad133,e133,hx133_0,hx133_1⟩:=at_T23 HR0_2.out x11_6 p133 q133
 have hw133_1:=hx133_1
 have hw133_0:=hx133_0
 obtain rfl : ad119 = ad133:=(by injection e133)
 replace hx133_0:=(HB.out.cell (World.block_lt_of_cell? w _ hx133_0)).trans hx133_0
 replace hx133_1:=(HB.out.cell (World.block_lt_of_cell? w _ hx133_1)).trans hx133_1
 replace p133:=eq_true p133
 replace q133:=eq_true q133
 have p134 : 0 ≤ (x7_4 : Int):=of_decide_eq_true aS
 have q134 : x7_4 < (l0_2.length : Int):=of_decide_eq_true aS
 obtain ⟨ad134,e134,hx134_0,hx134_1⟩:=at_T23 HR0_2.out x7_4 p134 q134
 have hw134_1:=hx134_1
 have hw134_0:=hx134_0
 obtain rfl : ad119 = ad134:=(by injection e134)
 replace hx134_0:=(HB.out.cell (World.block_lt_of_cell? w _ hx134_0)).trans hx134_0
 replace hx134_1:=(HB.out.cell (World.block_lt_of_cell? w _ hx134_1)).trans hx134_1
 replace p134:=eq_true p134
 replace q134:=eq_true q134
 refine start_ (n:=21) (S:=fun w' => w'.cell? ⟨gb103,0,none⟩ = some (.slice A0_0 l0_0.length c0_0) ∧ w'.cell? ⟨gb103,1,none⟩ = some (.slice A0_1 l0_1.length c0_1) ∧ w'.cell? ⟨gb103,2,none⟩ = some (.slice (some ad119) l0_2.length c0_2) ∧ w'.cell? (ad119.add ((x11_6).toNat * 2)) = some (.string ((rd_T23 l0_2 x11_6).f0)) ∧ w'.cell? ⟨(ad119.add ((x11_6).toNat * 2)).block,(ad119.add ((x11_6).toNat * 2)).off + 1,none⟩ = some (.string ((rd_T23 l0_2 x11_6).f1)) ∧ w'.cell? (ad119.add ((x7_4).toNat * 2)) = some (.string ((rd_T23 l0_2 x7_4).f0)) ∧ w'.cell? ⟨(ad119.add ((x7_4).toNat * 2)).block,(ad119.add ((x7_4).toNat * 2)).off + 1,none⟩ = some (.string ((rd_T23 l0_2 x7_4).f1))) (ds:=[]) #[false,false,false,false,false,false,false,false,false,false,false,false,false,false,false,false,false,false,false,false,false] (by kernel_rfl) rfl rfl ⟨(blk_cell BK103.out 0).trans rfl,(blk_cell BK103.out 1).trans rfl,(blk_cell BK103.out 2).trans rfl,((HB.out.cell (World.block_lt_of_cell? w _ hw133_0)).trans hw133_0),((HB.out.cell (World.block_lt_of_cell? w _ hw133_1)).trans hw133_1),((HB.out.cell (World.block_lt_of_cell? w _ hw134_0)).trans hw134_0),((HB.out.cell (World.block_lt_of_cell? w _ hw134_1)).trans hw134_1)⟩ (fun hHeld => ?_);refine with_tabW sr29_Right.tab34 sr29_Right.bits34 (fun HT_ HW_ => ?_)
 generalize wr.drew = w94 at BK103 HB hx133_0 hx133_1 hx134_0 hx134_1 hHeld ⊢
 refine pS (i:=0) (N:=some 177) ?_
 refine pS (i:=2) (N:=some 179) ?_
 refine pS (i:=6) (N:=some 183) ?_
 refine pS (i:=8) (N:=some 185) ?_
 refine tS (i:=1) (N:=some 178) rfl rfl hHeld HT_.out HW_.out (by kernel_rfl) (Or.inl ⟨by rfl,by rintro w' ⟨s0,s1,s2,s3,s4,s5,s6⟩;go_simp;with_reducible rfl⟩) ?_
 refine pS (i:=3) (N:=some 180) ?_
 refine pS (i:=4) (N:=some 181) ?_
 refine tS (i:=5) (N:=some 182) rfl rfl hHeld HT_.out HW_.out (by kernel_rfl) (Or.inl ⟨by rfl,by rintro w' ⟨s0,s1,s2,s3,s4,s5,s6⟩;go_simp;with_reducible rfl⟩) ?_
 refine tS (i:=7) (N:=some 184) rfl rfl hHeld HT_.out HW_.out (by kernel_rfl) (Or.inl ⟨by rfl,by rintro w' ⟨s0,s1,s2,s3,s4,s5,s6⟩;go_simp;with_reducible rfl⟩) ?_
 refine pS (i:=9) (N:=some 186) ?_
 refine pS (i:=10) (N:=some 187) ?_
 refine tS (i:=11) (N:=some 188) rfl rfl hHeld HT_.out HW_.out (by kernel_rfl) (Or.inl ⟨by rfl,by rintro w' ⟨s0,s1,s2,s3,s4,s5,s6⟩;go_simp;with_reducible rfl⟩) ?_
 refine pS (i:=12) (N:=some 189) ?_
 refine pS (i:=13) (N:=some 190) ?_
 refine pS (i:=14) (N:=some 191) ?_
 refine pS (i:=15) (N:=some 192) ?_
 refine pS (i:=18) (N:=some 195) ?_
 refine tS (i:=16) (N:=some 193) rfl rfl hHeld HT_.out HW_.out (by kernel_rfl) (Or.inl ⟨by rfl,by rintro w' ⟨s0,s1,s2,s3,s4,s5,s6⟩;go_simp;with_reducible rfl⟩) ?_
 refine one_ (i:=17) (N:=some 194) #[true,true,true,true,true,true,true,true,true,true,true,true,true,true,true,true,true,true,true,false,false] rfl rfl (one_of HT_.out (by kernel_rfl)) (by decide) (fun K hK => ?_)
 refine goes_ Tryz.func61 (by kernel_rfl) rfl #[.string t132,.slice A0_0 l0_0.length c0_0] (by rfl) rfl rfl eA ?_
 with_reducible refine (sr06_Renamed.calls t132 _ _ l0_0 t135 _ ?side1 ?side2 A88.out).mono ?_
 (case side1 => exact CU HR0_0)
 (case side2 => exact HC0_0.out)
 rintro e w95 ⟨rfl,hb⟩
 refine ⟨_,rfl,?_⟩
 replace BK103:=KN BK103 hb
 replace HB:=aq (below_step bH hb)
 (try clear hb)
 (try clear hb2)
 (try clear hk)
 (try clear hi)
 refine hK.out _ _ ⟨(blk_cell BK103.out 0).trans rfl,(blk_cell BK103.out 1).trans rfl,(blk_cell BK103.out 2).trans rfl,((HB.out.cell (World.block_lt_of_cell? w _ hw133_0)).trans hw133_0),((HB.out.cell (World.block_lt_of_cell? w _ hw133_1)).trans hw133_1),((HB.out.cell (World.block_lt_of_cell? w _ hw134_0)).trans hw134_0),((HB.out.cell (World.block_lt_of_cell? w _ hw134_1)).trans hw134_1)⟩ (fun hHeld => ?_)
 clear hK K
 refine norm_ (a':=?_) ?_ ?_
 rotate_left
 · show Act.put _ (some 194) _ = _
   simp only [Act.put,List.setIfInBounds_toArray,List.set_cons_zero,List.set_cons_succ,i64_w,i32_w]
   rfl
 refine pS (i:=19) (N:=some 196) ?_
 refine pS (i:=20) (N:=some 197) ?_
 refine done_ (done_of HT_.out (by kernel_rfl)) ?_
 try go_wp2
 go_roundg k6
 case measure => have:=HJ1.out;have:=HK2.out;have:=HK3.out;have:=HK4.out;have:=HJ63.out;have:=HK6.out;omega
 case rel => exact ⟨(wrap64 (x11_6 + 1)),eS,H',⟨by have:=HJ1.out;have:=HK2.out;have:=HK3.out;have:=HK4.out;have:=HJ63.out;have:=HK6.out;omega⟩,⟨KU BK103.out⟩,⟨bH⟩⟩
end Go.Proofs.YtaokkkolbifdpaaGreatDoor.Q34
end

section
namespace Go.Proofs.YtaokkkolbifdpaaGreatDoor.Hand
open Go.RowKit Go.Proofs.YtaokkkolbifdpaaGreatDoorW
open PrintWords PrintLast PrintMore
theorem ev_no : Ev (fun _ => some false) false := Ev.cst fun _ => rfl
theorem ev_yes : Ev (fun _ => some true) true := Ev.cst fun _ => rfl
theorem wrap_succ (i : Nat) (h : i ≤ 1048576) : wrap64 ((i : Int) + 1) = ((i + 1 : Nat) : Int) := by unfold wrap64; omega
theorem rdT_nat (l : List S23) (i : Nat) : rd_T23 l (i : Int) = l.getD i z23 := rfl
theorem rdOf_nat (l : List ByteArray) (i : Nat) : rdOf ByteArray.empty l (i : Int) = l.getD i ByteArray.empty := rfl
theorem clsF (s : ByteArray) (h : s.size ≤ 1048576) : sr04_Class.f s = some (classL (bl s)) := by unfold sr04_Class.f; rw [if_pos (by omega)]; rfl
theorem namF (s : ByteArray) (h : s.size ≤ 1048576) : sr04_Name.f s = some (nameL (bl s)) := by unfold sr04_Name.f; rw [if_pos (by omega)]; rfl
theorem renF (d : List UInt8) (l : List S23) (h : okL l) : sr06_Renamed.f (lb d) l = some (lb (renD classL d (l.map pairT))) := by unfold sr06_Renamed.f; rw [if_pos ⟨h.1, okL_short h⟩, bl_lb]
theorem risF (l : List S23) (h : okL l) : sr29_rises.f l = some (risesP l) := by unfold sr29_rises.f; rw [if_pos h.1]
theorem splitD_len (d : List UInt8) : (splitD classL d).1.length ≤ 8 := by
 unfold splitD
 split
 ·
  exact Nat.zero_le _
 ·
  split
  ·
   split
   ·
    split
    ·
     split
     ·
      assumption
     ·
      exact Nat.zero_le _
    ·
     exact Nat.zero_le _
   ·
    exact Nat.zero_le _
  ·
   exact Nat.zero_le _
theorem classesD_len (d : List UInt8) : (classesD classL d).length ≤ 9 := by
 unfold classesD
 have h:=splitD_len d
 generalize splitD classL d = q at h
 obtain ⟨ps,r,e⟩:=q
 dsimp only at h ⊢
 split
 ·
  refine Nat.le_trans (List.length_filter_le _ _) ?_
  rw [List.length_map,List.length_append]
  show ps.length + 1 ≤ 9
  omega
 ·
  exact Nat.zero_le _
def shortQ (l : List S23) : Bool := l.all fun x => decide (x.f0.size ≤ 1048576 ∧ x.f1.size ≤ 1048576)
theorem shortQ_mem {l : List S23} (h : shortQ l = true) : ∀ x ∈ l, okS x := fun x hx => of_decide_eq_true (p := x.f0.size ≤ 1048576 ∧ x.f1.size ≤ 1048576) (List.all_eq_true.1 h x hx)
theorem shortQ_of {l : List S23} (h : ∀ x ∈ l, okS x) : shortQ l = true := List.all_eq_true.2 fun x hx => by
 have h1 : x.f0.size ≤ 1048576 ∧ x.f1.size ≤ 1048576:=h x hx
 exact decide_eq_true h1
theorem cut_loopQ34 (s : ByteArray) (hs : s.size ≤ 1048576) : ∀ (d k i : Nat), s.size - i = d → i ≤ s.size → d < k → (40 : UInt8) ∉ (bl s).take i → Q34.sr29_cut.l0 k s (i : Int) = some (lb (keyN (bl s)), lb (keyD (bl s)))
 | 0,k,i,hd,hi,hk,hn => by
  obtain ⟨k,rfl⟩ : ∃ j,k = j + 1:=⟨k - 1,by omega⟩
  rw [List.take_of_length_le (by rw [bl_len];omega)] at hn
  rw [Q34.sr29_cut.l0,if_neg (by omega),(key_none hn).1,(key_none hn).2,lb_bl]
  rfl
 | d + 1,k,i,hd,hi,hk,hn => by
  obtain ⟨k,rfl⟩ : ∃ j,k = j + 1:=⟨k - 1,by omega⟩
  have hlt : i < s.size:=by omega
  have hdr : (bl s).drop i = s[i] :: (bl s).drop (i + 1):=drop_data s i hlt
  have hsp : bl s = (bl s).take i ++ s[i] :: (bl s).drop (i + 1):=by rw [← hdr,List.take_append_drop]
  rw [Q34.sr29_cut.l0,if_pos (by omega),if_pos (by omega),bt_nat s i hlt]
  by_cases h40 : s[i] = 40
  ·
   have hl : (bl s).take i ++ (40 : UInt8) :: (bl s).drop (i + 1) = bl s:=by rw [← h40];exact hsp.symm
   have hk2:=key_at ((bl s).take i) ((bl s).drop (i + 1)) hn
   rw [hl] at hk2
   rw [if_pos (by rw [h40];rfl),if_pos (by omega),Int.toNat_natCast,ext_front,ext_back,hk2.1,hk2.2,hdr,h40]
  ·
   have e40 : (40 : UInt8).toNat = 40:=rfl
   have hne : ¬ ((s[i].toNat : Int) = 40):=fun h => h40 (UInt8.toNat_inj.1 (by omega))
   have hw : wrap64 ((i : Int) + 1) = ((i + 1 : Nat) : Int):=by unfold wrap64;omega
   have ih:=cut_loopQ34 s hs d k (i + 1) (by omega) (by omega) (by omega) (by
    rw [List.take_succ_eq_append_getElem (by rw [bl_len];exact hlt),List.mem_append]
    rintro (h|h)
    ·
     exact hn h
    ·
     rw [List.mem_singleton] at h
     have e : (bl s)[i]'(by rw [bl_len];exact hlt) = s[i]:=get_data s i hlt
     rw [e] at h
     exact h40 h.symm)
   rw [if_neg hne,hw,ih]
theorem cut_eqQ34 (s : ByteArray) (hs : s.size ≤ 1048576) (k : Nat) (hk : s.size < k) : Q34.sr29_cut.f k s = some (lb (keyN (bl s)), lb (keyD (bl s))) := cut_loopQ34 s hs s.size k 0 (by omega) (by omega) hk (by simp)
theorem range_all {α : Type} (l : List α) (x0 : α) (g : α → Bool) : ((List.range l.length).all fun i => g (l.getD i x0)) = l.all g := by
 rw [Bool.eq_iff_iff]
 simp only [List.all_eq_true,List.mem_range]
 constructor
 ·
  intro h x hx
  obtain ⟨i,hi,rfl⟩:=List.mem_iff_getElem.1 hx
  have h1:=h i hi
  rw [getD_at l x0 i hi] at h1
  exact h1
 ·
  intro h i hi
  rw [getD_at l x0 i hi]
  exact h _ (List.getElem_mem hi)
theorem named_in (l : List S23) (cs : List ByteArray) (hl : l.length ≤ 1048576) (i : Nat) (hi : i < cs.length) (hc : cs.length ≤ 1048576) (v : Bool) (hv : Ev (fun k => Q34.sr29_named.l0 k l cs ((i + 1 : Nat) : Int)) v) :
  ∀ (d j : Nat) (had : Bool),j + d = l.length → Ev (fun k => Q34.sr29_named.l1 k l cs (i : Int) had (j : Int)) ((had || (l.drop j).any fun y => bl y.f0 == bl (cs.getD i ByteArray.empty)) && v)
 | 0,j,had,h => by
  have hd : l.drop j = []:=List.drop_of_length_le (by omega)
  rw [hd,List.any_nil,Bool.or_false]
  cases had with
  | true =>
   refine Ev.step hv fun k => ?_
   show Q34.sr29_named.l1 (k + 1) l cs (i : Int) true (j : Int) = _
   rw [Q34.sr29_named.l1,if_neg (by omega),if_pos rfl,wrap_succ i (by omega)]
  | false =>
   refine Ev.step ev_no fun k => ?_
   show Q34.sr29_named.l1 (k + 1) l cs (i : Int) false (j : Int) = _
   rw [Q34.sr29_named.l1,if_neg (by omega),if_neg (by decide)]
 | d + 1,j,had,h => by
  have hj : j < l.length:=by omega
  cases had with
  | true =>
   have ih:=named_in l cs hl i hi hc v hv d (j + 1) true (by omega)
   rw [Bool.true_or] at ih ⊢
   refine Ev.step ih fun k => ?_
   show Q34.sr29_named.l1 (k + 1) l cs (i : Int) true (j : Int) = _
   rw [Q34.sr29_named.l1,if_pos (by omega),if_pos rfl,wrap_succ j (by omega)]
  | false =>
   have ih:=named_in l cs hl i hi hc v hv d (j + 1) (bl (l.getD j z23).f0 == bl (cs.getD i ByteArray.empty)) (by omega)
   rw [List.drop_eq_getElem_cons hj,List.any_cons,Bool.false_or,← getD_at l z23 j hj]
   refine Ev.step ih fun k => ?_
   show Q34.sr29_named.l1 (k + 1) l cs (i : Int) false (j : Int) = _
   rw [Q34.sr29_named.l1,if_pos (by omega),if_neg (by decide),if_pos (by omega),if_pos (by omega),if_pos (by omega),wrap_succ j (by omega),rdT_nat,rdOf_nat,toList_bl,toList_bl]
theorem named_ev (l : List S23) (cs : List ByteArray) (hl : l.length ≤ 1048576) (hc : cs.length ≤ 1048576) :
  Ev (fun k => Q34.sr29_named.f k l cs) (cs.all fun c => l.any fun y => bl y.f0 == bl c):=by
 have h:=ev_loop0 (n:=cs.length) (fun k i => Q34.sr29_named.l0 k l cs (i : Int)) (fun i => l.any fun y => bl y.f0 == bl (cs.getD i ByteArray.empty)) true
  (Ev.step ev_yes fun k => by
   show Q34.sr29_named.l0 (k + 1) l cs (cs.length : Int) = _
   rw [Q34.sr29_named.l0,if_neg (by omega)])
  (fun i hi v hv => Ev.step (named_in l cs hl i hi hc v hv l.length 0 false (by omega)) fun k => by
   show Q34.sr29_named.l0 (k + 1) l cs (i : Int) = _
   rw [Q34.sr29_named.l0,if_pos (by omega)]
   rfl)
 rw [range_all cs ByteArray.empty (fun c => l.any fun y => bl y.f0 == bl c),Bool.and_true] at h
 exact h
theorem named_good (l : List S23) (d : List UInt8) : (((classesD classL d).map lb).all fun c => l.any fun y => bl y.f0 == bl c) = goodB (l.map pairT) d := by
 unfold goodB
 rw [List.all_map]
 congr 1
 funext c
 show (l.any fun y => bl y.f0 == bl (lb c)) = _
 rw [bl_lb,List.any_map]
 rfl
theorem alike_0 (l0 l1 l2 : List S23) (hl : l0.length ≤ 1048576) (i : Nat) (hi : i < l0.length) (v : Bool) (hv : Ev (fun k => Q34.sr29_Right.l0 k ((i + 1 : Nat) : Int) l0 l1 l2) v) :
  Ev (fun k => Q34.sr29_Right.l1 k (i : Int) 0 l0 l1 l2) (((List.range i).all fun j => !decide (bl (l0.getD j z23).f1 = bl (l0.getD i z23).f1)) && v):=by
 refine ev_loop0 (n:=i) (fun k j => Q34.sr29_Right.l1 k (i : Int) (j : Int) l0 l1 l2) (fun j => !decide (bl (l0.getD j z23).f1 = bl (l0.getD i z23).f1)) v ?_ ?_
 ·
  refine Ev.step hv fun k => ?_
  show Q34.sr29_Right.l1 (k + 1) (i : Int) (i : Int) l0 l1 l2 = _
  rw [Q34.sr29_Right.l1,if_neg (by omega),wrap_succ i (by omega)]
 ·
  intro j hj v' hv'
  by_cases h : bl (l0.getD j z23).f1 = bl (l0.getD i z23).f1
  ·
   show Ev _ (!decide _ && v')
   rw [decide_eq_true h]
   refine Ev.step ev_no fun k => ?_
   show Q34.sr29_Right.l1 (k + 1) (i : Int) (j : Int) l0 l1 l2 = _
   rw [Q34.sr29_Right.l1,if_pos (by omega),if_pos (by omega),if_pos (by omega),if_pos (by omega),if_pos (by omega),rdT_nat,rdT_nat,toList_bl,toList_bl,if_pos h]
  ·
   show Ev _ (!decide _ && v')
   rw [decide_eq_false h]
   refine Ev.step hv' fun k => ?_
   show Q34.sr29_Right.l1 (k + 1) (i : Int) (j : Int) l0 l1 l2 = _
   rw [Q34.sr29_Right.l1,if_pos (by omega),if_pos (by omega),if_pos (by omega),if_pos (by omega),if_pos (by omega),rdT_nat,rdT_nat,toList_bl,toList_bl,if_neg h,wrap_succ j (by omega)]
theorem alike_1 (l0 l1 l2 : List S23) (hl : l1.length ≤ 1048576) (i : Nat) (hi : i < l1.length) (v : Bool) (hv : Ev (fun k => Q34.sr29_Right.l2 k ((i + 1 : Nat) : Int) l0 l1 l2) v) :
  Ev (fun k => Q34.sr29_Right.l3 k (i : Int) 0 l0 l1 l2) (((List.range i).all fun j => !decide (bl (l1.getD j z23).f1 = bl (l1.getD i z23).f1)) && v):=by
 refine ev_loop0 (n:=i) (fun k j => Q34.sr29_Right.l3 k (i : Int) (j : Int) l0 l1 l2) (fun j => !decide (bl (l1.getD j z23).f1 = bl (l1.getD i z23).f1)) v ?_ ?_
 ·
  refine Ev.step hv fun k => ?_
  show Q34.sr29_Right.l3 (k + 1) (i : Int) (i : Int) l0 l1 l2 = _
  rw [Q34.sr29_Right.l3,if_neg (by omega),wrap_succ i (by omega)]
 ·
  intro j hj v' hv'
  by_cases h : bl (l1.getD j z23).f1 = bl (l1.getD i z23).f1
  ·
   show Ev _ (!decide _ && v')
   rw [decide_eq_true h]
   refine Ev.step ev_no fun k => ?_
   show Q34.sr29_Right.l3 (k + 1) (i : Int) (j : Int) l0 l1 l2 = _
   rw [Q34.sr29_Right.l3,if_pos (by omega),if_pos (by omega),if_pos (by omega),if_pos (by omega),if_pos (by omega),rdT_nat,rdT_nat,toList_bl,toList_bl,if_pos h]
  ·
   show Ev _ (!decide _ && v')
   rw [decide_eq_false h]
   refine Ev.step hv' fun k => ?_
   show Q34.sr29_Right.l3 (k + 1) (i : Int) (j : Int) l0 l1 l2 = _
   rw [Q34.sr29_Right.l3,if_pos (by omega),if_pos (by omega),if_pos (by omega),if_pos (by omega),if_pos (by omega),rdT_nat,rdT_nat,toList_bl,toList_bl,if_neg h,wrap_succ j (by omega)]
theorem right_l0 (l0 l1 l2 : List S23) (ok : okL l0) (v2 : Bool) (hv2 : Ev (fun k => Q34.sr29_Right.l2 k 0 l0 l1 l2) v2) :
  Ev (fun k => Q34.sr29_Right.l0 k 0 l0 l1 l2) (((l0.all fun x => classL (bl x.f0) && classL (bl x.f1)) && decide (l0.map fun x => bl x.f1).Nodup) && v2):=by
 rw [← all_alike l0 z23 (fun x => classL (bl x.f0) && classL (bl x.f1)) (fun x => bl x.f1)]
 refine ev_loop0 (n:=l0.length) (fun k i => Q34.sr29_Right.l0 k (i : Int) l0 l1 l2) _ v2 ?_ ?_
 ·
  refine Ev.step hv2 fun k => ?_
  show Q34.sr29_Right.l0 (k + 1) (l0.length : Int) l0 l1 l2 = _
  rw [Q34.sr29_Right.l0,if_neg (by omega)]
 ·
  intro i hi v hv
  have hin:=alike_0 l0 l1 l2 ok.1 i hi v hv
  have hq : okS (l0.getD i z23):=by rw [getD_at l0 z23 i hi];exact ok.2 _ (List.getElem_mem hi)
  show Ev _ (((classL _ && classL _) && _) && v)
  rw [Bool.and_assoc]
  cases h0 : classL (bl (l0.getD i z23).f0) with
  | false =>
   refine Ev.step (F:=fun k => Q34.sr29_Right.j2 k (i : Int) true l0 l1 l2) (Ev.step ev_no fun k => ?_) fun k => ?_
   ·
    show Q34.sr29_Right.j2 (k + 1) (i : Int) true l0 l1 l2 = _
    rw [Q34.sr29_Right.j2,if_pos rfl]
   ·
    show Q34.sr29_Right.l0 (k + 1) (i : Int) l0 l1 l2 = _
    rw [Q34.sr29_Right.l0,if_pos (by omega),if_pos (by omega),rdT_nat,clsF _ hq.1,h0,Option.bind_some,if_neg (by decide)]
  | true =>
   cases h1 : classL (bl (l0.getD i z23).f1) with
   | false =>
    refine Ev.step (F:=fun k => Q34.sr29_Right.j2 k (i : Int) true l0 l1 l2) (Ev.step ev_no fun k => ?_) fun k => ?_
    ·
     show Q34.sr29_Right.j2 (k + 1) (i : Int) true l0 l1 l2 = _
     rw [Q34.sr29_Right.j2,if_pos rfl]
    ·
     show Q34.sr29_Right.l0 (k + 1) (i : Int) l0 l1 l2 = _
     rw [Q34.sr29_Right.l0,if_pos (by omega),if_pos (by omega),rdT_nat,clsF _ hq.1,h0,Option.bind_some,if_pos rfl,clsF _ hq.2,h1,Option.bind_some]
     rfl
   | true =>
    refine Ev.step (F:=fun k => Q34.sr29_Right.j2 k (i : Int) false l0 l1 l2) (Ev.step hin fun k => ?_) fun k => ?_
    ·
     show Q34.sr29_Right.j2 (k + 1) (i : Int) false l0 l1 l2 = _
     rw [Q34.sr29_Right.j2,if_neg (by decide)]
    ·
     show Q34.sr29_Right.l0 (k + 1) (i : Int) l0 l1 l2 = _
     rw [Q34.sr29_Right.l0,if_pos (by omega),if_pos (by omega),rdT_nat,clsF _ hq.1,h0,Option.bind_some,if_pos rfl,clsF _ hq.2,h1,Option.bind_some]
     rfl
theorem right_l2 (l0 l1 l2 : List S23) (ok : okL l1) (v2 : Bool) (hv2 : Ev (fun k => Q34.sr29_Right.l4 k 0 l0 l1 l2) v2) :
  Ev (fun k => Q34.sr29_Right.l2 k 0 l0 l1 l2) (((l1.all fun x => nameL (bl x.f0) && nameL (bl x.f1)) && decide (l1.map fun x => bl x.f1).Nodup) && v2):=by
 rw [← all_alike l1 z23 (fun x => nameL (bl x.f0) && nameL (bl x.f1)) (fun x => bl x.f1)]
 refine ev_loop0 (n:=l1.length) (fun k i => Q34.sr29_Right.l2 k (i : Int) l0 l1 l2) _ v2 ?_ ?_
 ·
  refine Ev.step hv2 fun k => ?_
  show Q34.sr29_Right.l2 (k + 1) (l1.length : Int) l0 l1 l2 = _
  rw [Q34.sr29_Right.l2,if_neg (by omega)]
 ·
  intro i hi v hv
  have hin:=alike_1 l0 l1 l2 ok.1 i hi v hv
  have hq : okS (l1.getD i z23):=by rw [getD_at l1 z23 i hi];exact ok.2 _ (List.getElem_mem hi)
  show Ev _ (((nameL _ && nameL _) && _) && v)
  rw [Bool.and_assoc]
  cases h0 : nameL (bl (l1.getD i z23).f0) with
  | false =>
   refine Ev.step (F:=fun k => Q34.sr29_Right.j5 k (i : Int) true l0 l1 l2) (Ev.step ev_no fun k => ?_) fun k => ?_
   ·
    show Q34.sr29_Right.j5 (k + 1) (i : Int) true l0 l1 l2 = _
    rw [Q34.sr29_Right.j5,if_pos rfl]
   ·
    show Q34.sr29_Right.l2 (k + 1) (i : Int) l0 l1 l2 = _
    rw [Q34.sr29_Right.l2,if_pos (by omega),if_pos (by omega),rdT_nat,namF _ hq.1,h0,Option.bind_some,if_neg (by decide)]
  | true =>
   cases h1 : nameL (bl (l1.getD i z23).f1) with
   | false =>
    refine Ev.step (F:=fun k => Q34.sr29_Right.j5 k (i : Int) true l0 l1 l2) (Ev.step ev_no fun k => ?_) fun k => ?_
    ·
     show Q34.sr29_Right.j5 (k + 1) (i : Int) true l0 l1 l2 = _
     rw [Q34.sr29_Right.j5,if_pos rfl]
    ·
     show Q34.sr29_Right.l2 (k + 1) (i : Int) l0 l1 l2 = _
     rw [Q34.sr29_Right.l2,if_pos (by omega),if_pos (by omega),rdT_nat,namF _ hq.1,h0,Option.bind_some,if_pos rfl,namF _ hq.2,h1,Option.bind_some]
     rfl
   | true =>
    refine Ev.step (F:=fun k => Q34.sr29_Right.j5 k (i : Int) false l0 l1 l2) (Ev.step hin fun k => ?_) fun k => ?_
    ·
     show Q34.sr29_Right.j5 (k + 1) (i : Int) false l0 l1 l2 = _
     rw [Q34.sr29_Right.j5,if_neg (by decide)]
    ·
     show Q34.sr29_Right.l2 (k + 1) (i : Int) l0 l1 l2 = _
     rw [Q34.sr29_Right.l2,if_pos (by omega),if_pos (by omega),rdT_nat,namF _ hq.1,h0,Option.bind_some,if_pos rfl,namF _ hq.2,h1,Option.bind_some]
     rfl
theorem alike_2 (l0 l1 l2 : List S23) (ok0 : okL l0) (ok2 : okL l2) (i : Nat) (hi : i < l2.length) (v : Bool) (hv : Ev (fun k => Q34.sr29_Right.l4 k ((i + 1 : Nat) : Int) l0 l1 l2) v) :
  Ev (fun k => Q34.sr29_Right.l5 k (i : Int) (lb (renD classL (keyD (bl (l2.getD i z23).f0)) (l0.map pairT))) 0 l0 l1 l2) (((List.range i).all fun j => !decide (thereP (l0.map pairT) (pairT (l2.getD j z23)) = thereP (l0.map pairT) (pairT (l2.getD i z23)))) && v):=by
 have hl:=ok2.1
 refine ev_loop0 (n:=i) (fun k j => Q34.sr29_Right.l5 k (i : Int) (lb (renD classL (keyD (bl (l2.getD i z23).f0)) (l0.map pairT))) (j : Int) l0 l1 l2) (fun j => !decide (thereP (l0.map pairT) (pairT (l2.getD j z23)) = thereP (l0.map pairT) (pairT (l2.getD i z23)))) v ?_ ?_
 ·
  refine Ev.step hv fun k => ?_
  show Q34.sr29_Right.l5 (k + 1) (i : Int) _ (i : Int) l0 l1 l2 = _
  rw [Q34.sr29_Right.l5,if_neg (by omega),wrap_succ i (by omega)]
 ·
  intro j hj v' hv'
  have hq : okS (l2.getD j z23):=by rw [getD_at l2 z23 j (by omega)];exact ok2.2 _ (List.getElem_mem _)
  obtain ⟨K,hK⟩:=hv'
  refine ⟨max K ((l2.getD j z23).f0.size + 1) + 1,fun k hk => ?_⟩
  obtain ⟨m,rfl⟩ : ∃ m,k = m + 1:=⟨k - 1,by omega⟩
  show Q34.sr29_Right.l5 (m + 1) (i : Int) _ (j : Int) l0 l1 l2 = some (!decide (thereP _ (pairT (l2.getD j z23)) = thereP _ (pairT (l2.getD i z23))) && v')
  have hk1:=hK m (by omega)
  rw [Q34.sr29_Right.l5,if_pos (by omega),if_pos (by omega),if_pos (by omega),rdT_nat,rdT_nat,cut_eqQ34 _ hq.1 m (by omega),Option.bind_some,if_pos (by omega),if_pos (by omega),wrap_succ j (by omega),toList_bl,toList_bl]
  dsimp only
  rw [renF _ _ ok0,Option.bind_some,toList_bl,toList_bl,bl_lb,bl_lb]
  have e : (thereP (l0.map pairT) (pairT (l2.getD j z23)) = thereP (l0.map pairT) (pairT (l2.getD i z23))) ↔ (bl (l2.getD j z23).f1 = bl (l2.getD i z23).f1 ∧ renD classL (keyD (bl (l2.getD j z23).f0)) (l0.map pairT) = renD classL (keyD (bl (l2.getD i z23).f0)) (l0.map pairT)):=by
   unfold thereP
   rw [Prod.mk.injEq]
   rfl
  by_cases h1 : bl (l2.getD j z23).f1 = bl (l2.getD i z23).f1
  ·
   rw [if_pos h1]
   by_cases h2 : renD classL (keyD (bl (l2.getD j z23).f0)) (l0.map pairT) = renD classL (keyD (bl (l2.getD i z23).f0)) (l0.map pairT)
   ·
    rw [if_pos h2,decide_eq_true (e.2 ⟨h1,h2⟩)]
    rfl
   ·
    rw [if_neg h2,decide_eq_false (fun h => h2 (e.1 h).2)]
    exact hk1
  ·
   rw [if_neg h1,decide_eq_false (fun h => h1 (e.1 h).1)]
   exact hk1
theorem right_j8 (l0 l1 l2 : List S23) (i : Int) (tx : ByteArray) (g v : Bool) (hv : Ev (fun k => Q34.sr29_Right.l5 k i tx 0 l0 l1 l2) v) : Ev (fun k => Q34.sr29_Right.j8 k i tx (!g) l0 l1 l2) (g && v) := by
 cases g with
 | false =>
  refine Ev.step ev_no fun k => ?_
  show Q34.sr29_Right.j8 (k + 1) i tx true l0 l1 l2 = _
  rw [Q34.sr29_Right.j8,if_pos rfl]
 | true =>
  refine Ev.step hv fun k => ?_
  show Q34.sr29_Right.j8 (k + 1) i tx false l0 l1 l2 = _
  rw [Q34.sr29_Right.j8,if_neg (by decide)]
theorem method_ev (l0 l1 l2 : List S23) (ok0 : okL l0) (ok2 : okL l2) (i : Nat) (hi : i < l2.length) (v : Bool) (hv : Ev (fun k => Q34.sr29_Right.l5 k (i : Int) (lb (renD classL (keyD (bl (l2.getD i z23).f0)) (l0.map pairT))) 0 l0 l1 l2) v) :
  Ev (fun k => Q34.sr29_Right.l4 k (i : Int) l0 l1 l2) (methodB (l0.map pairT) (pairT (l2.getD i z23)) && v):=by
 have hq : okS (l2.getD i z23):=by rw [getD_at l2 z23 i hi];exact ok2.2 _ (List.getElem_mem _)
 obtain ⟨q,hqe⟩ : ∃ q,q = l2.getD i z23:=⟨_,rfl⟩
 rw [← hqe] at hq hv ⊢
 have hn:=keyN_len (bl q.f0)
 rw [bl_len] at hn
 have hq1:=hq.1
 have hcl : (((classesD classL (keyD (bl q.f0))).map lb).length ≤ 1048576):=by
  rw [List.length_map]
  exact Nat.le_trans (classesD_len _) (by decide)
 obtain ⟨K1,h1⟩:=named_ev l0 ((classesD classL (keyD (bl q.f0))).map lb) ok0.1 hcl
 rw [named_good] at h1
 unfold methodB
 show Ev _ ((((nameL (keyN (bl q.f0)) && nameL (bl q.f1)) && !(renD classL (keyD (bl q.f0)) (l0.map pairT)).isEmpty) && goodB (l0.map pairT) (keyD (bl q.f0))) && v)
 obtain ⟨K3,h3⟩:=right_j8 l0 l1 l2 (i : Int) _ false v hv
 obtain ⟨K2,h2⟩:=right_j8 l0 l1 l2 (i : Int) _ (goodB (l0.map pairT) (keyD (bl q.f0))) v hv
 refine ⟨max (max K1 K3) (max K2 (q.f0.size + 1)) + 1,fun k hk => ?_⟩
 obtain ⟨m,rfl⟩ : ∃ m,k = m + 1:=⟨k - 1,by omega⟩
 show Q34.sr29_Right.l4 (m + 1) (i : Int) l0 l1 l2 = _
 have f1:=h1 m (by omega)
 dsimp only at f1
 have f2:=h2 m (by omega)
 have f3:=h3 m (by omega)
 rw [Q34.sr29_Right.l4,if_pos (by omega),if_pos (by omega),rdT_nat,← hqe,cut_eqQ34 _ hq1 m (by omega),Option.bind_some]
 dsimp only
 rw [renF _ _ ok0,Option.bind_some,namF _ (by rw [lb_size];omega),Option.bind_some,bl_lb,namF _ hq.2,Option.bind_some]
 cases e1 : nameL (keyN (bl q.f0)) with
 | false =>
  rw [if_neg (by decide)]
  exact f3
 | true =>
  rw [if_pos rfl]
  cases e2 : nameL (bl q.f1) with
  | false =>
   rw [if_neg (by decide)]
   exact f3
  | true =>
   rw [if_pos rfl,toList_bl,bl_lb]
   cases e3 : (renD classL (keyD (bl q.f0)) (l0.map pairT)).isEmpty with
   | true =>
    rw [if_pos (List.isEmpty_iff.1 e3)]
    exact f3
   | false =>
    rw [if_neg (fun h => by rw [h] at e3;cases e3)]
    unfold sr06_Classes.f
    rw [bl_lb,Option.bind_some,f1,Option.bind_some]
    exact f2
theorem right_l4 (l0 l1 l2 : List S23) (ok0 : okL l0) (ok2 : okL l2) :
  Ev (fun k => Q34.sr29_Right.l4 k 0 l0 l1 l2) (((l2.all fun x => methodB (l0.map pairT) (pairT x)) && decide (l2.map fun x => thereP (l0.map pairT) (pairT x)).Nodup) && true):=by
 rw [← all_alike l2 z23 (fun x => methodB (l0.map pairT) (pairT x)) (fun x => thereP (l0.map pairT) (pairT x))]
 refine ev_loop0 (n:=l2.length) (fun k i => Q34.sr29_Right.l4 k (i : Int) l0 l1 l2) _ true ?_ ?_
 ·
  refine Ev.step ev_yes fun k => ?_
  show Q34.sr29_Right.l4 (k + 1) (l2.length : Int) l0 l1 l2 = _
  rw [Q34.sr29_Right.l4,if_neg (by omega)]
 ·
  intro i hi v hv
  have h:=method_ev l0 l1 l2 ok0 ok2 i hi _ (alike_2 l0 l1 l2 ok0 ok2 i hi v hv)
  rw [← Bool.and_assoc] at h
  exact h
theorem right_j0 (l0 l1 l2 : List S23) (g v : Bool) (hv : Ev (fun k => Q34.sr29_Right.l0 k 0 l0 l1 l2) v) : Ev (fun k => Q34.sr29_Right.j0 k (!g) l0 l1 l2) (g && v) := by
 cases g with
 | false =>
  refine Ev.step ev_no fun k => ?_
  show Q34.sr29_Right.j0 (k + 1) true l0 l1 l2 = _
  rw [Q34.sr29_Right.j0,if_pos rfl]
 | true =>
  refine Ev.step hv fun k => ?_
  show Q34.sr29_Right.j0 (k + 1) false l0 l1 l2 = _
  rw [Q34.sr29_Right.j0,if_neg (by decide)]
theorem refRight_ev (l0 l1 l2 : List S23) (ok0 : okL l0) (ok1 : okL l1) (ok2 : okL l2) : Ev (fun k => Q34.sr29_Right.f k l0 l1 l2) (rightS l0 l1 l2) := by
 rw [← refR_eq]
 unfold refR
 have hv:=right_l0 l0 l1 l2 ok0 _ (right_l2 l0 l1 l2 ok1 _ (right_l4 l0 l1 l2 ok0 ok2))
 have h:=fun g => right_j0 l0 l1 l2 g _ hv
 unfold Q34.sr29_Right.f
 rw [risF l0 ok0,risF l1 ok1,risF l2 ok2]
 simp only [Option.bind_some]
 cases risesP l0 with
 | false => exact h false
 | true =>
  cases risesP l1 with
  | false => exact h false
  | true => exact h (risesP l2)
def sr29_Right.f (l0 l1 l2 : List S23) : Option Bool := if l0.length ≤ 1048576 ∧ l1.length ≤ 1048576 ∧ l2.length ≤ 1048576 ∧ shortQ l0 = true ∧ shortQ l1 = true ∧ shortQ l2 = true then some (rightS l0 l1 l2) else none
theorem sr29_Right.calls (A0_0 : Option Addr) (c0_0 : Nat) (l0_0 : List (S23)) (A0_1 : Option Addr) (c0_1 : Nat) (l0_1 : List (S23)) (A0_2 : Option Addr) (c0_2 : Nat) (l0_2 : List (S23)) (r : Bool) (w : World) (hr0_0 : Kd.C k23 w A0_0 l0_0.length l0_0) (hc0_0 : l0_0.length ≤ c0_0) (hr0_1 : Kd.C k23 w A0_1 l0_1.length l0_1) (hc0_1 : l0_1.length ≤ c0_1) (hr0_2 : Kd.C k23 w A0_2 l0_2.length l0_2) (hc0_2 : l0_2.length ≤ c0_2) (h : sr29_Right.f l0_0 l0_1 l0_2 = some r) :
  Calls Tryz.prog 29 #[.agg #[.slice A0_0 l0_0.length c0_0,.slice A0_1 l0_1.length c0_1,.slice A0_2 l0_2.length c0_2]] w fun e w' => e = .returned (.bool r) ∧ Below w.heap.size w w':=by
 unfold sr29_Right.f at h
 split at h
 ·
  rename_i hs
  obtain ⟨K,hK⟩:=refRight_ev l0_0 l0_1 l0_2 ⟨hs.1,shortQ_mem hs.2.2.2.1⟩ ⟨hs.2.1,shortQ_mem hs.2.2.2.2.1⟩ ⟨hs.2.2.1,shortQ_mem hs.2.2.2.2.2⟩
  exact Q34.sr29_Right.calls K A0_0 c0_0 l0_0 A0_1 c0_1 l0_1 A0_2 c0_2 l0_2 r w hr0_0 hc0_0 hr0_1 hc0_1 hr0_2 hc0_2 ((hK K (Nat.le_refl _)).trans h)
 ·
  cases h
end Go.Proofs.YtaokkkolbifdpaaGreatDoor.Hand
end

section
namespace Go.Proofs.YtaokkkolbifdpaaGreatDoor.Q35
open Go.RowKit Go.Proofs.YtaokkkolbifdpaaGreatDoorW
open PrintWords PrintLast PrintMore Go.Proofs.YtaokkkolbifdpaaGreatDoor.Hand
attribute [local go_sem] max2_int min2_int max_two min_two max_three min_three max_four min_four
def errW : Option Int → Value
  | none => .nilIface
  | some c => .iface 0 (.int .i64 c)
theorem errW_none : errW none = .nilIface := rfl
theorem errW_some (c : Int) : errW (some c) = .iface 0 (.int .i64 c) := rfl
theorem info9 : (Tryz.prog.info? 9).map (fun i => (i.zero, i.size, i.bytes)) = some (some (.string ⟨#[]⟩), 1, 16) := by kernel_rfl
theorem info23 : (Tryz.prog.info? 23).map (fun i => (i.zero, i.size, i.bytes)) = some (some (.agg #[(.string ⟨#[]⟩), (.string ⟨#[]⟩)]), 2, 32) := by kernel_rfl
mutual
def sr30_text.l0 : Nat → ByteArray → Int → List (S23) → List (S23) → List (S23) → Option (ByteArray)
  | 0,_,_,_,_,_ => none
  | k + 1,x3,x4,x102000,x102001,x102002 => if x4 < (x102000.length : Int) then (if 0 ≤ x4 then ((sr30_Line.f (⟨#[99,108,97,115,115]⟩ : ByteArray) ((rd_T23 x102000 x4).f0) ((rd_T23 x102000 x4).f1)).bind fun t103 => (if t103.size + 1 ≤ 9223372036854775807 then (if x3.size + (t103 ++ (⟨#[10]⟩ : ByteArray)).size ≤ 9223372036854775807 then (sr30_text.l0 k (x3 ++ (t103 ++ (⟨#[10]⟩ : ByteArray))) (wrap64 (x4 + 1)) x102000 x102001 x102002) else (none)) else (none))) else (none)) else (sr30_text.l1 k x3 0 x102000 x102001 x102002)
def sr30_text.l1 : Nat → ByteArray → Int → List (S23) → List (S23) → List (S23) → Option (ByteArray)
  | 0,_,_,_,_,_ => none
  | k + 1,x3,x5,x102000,x102001,x102002 => if x5 < (x102001.length : Int) then (if 0 ≤ x5 then ((sr30_Line.f (⟨#[102,105,101,108,100]⟩ : ByteArray) ((rd_T23 x102001 x5).f0) ((rd_T23 x102001 x5).f1)).bind fun t105 => (if t105.size + 1 ≤ 9223372036854775807 then (if x3.size + (t105 ++ (⟨#[10]⟩ : ByteArray)).size ≤ 9223372036854775807 then (sr30_text.l1 k (x3 ++ (t105 ++ (⟨#[10]⟩ : ByteArray))) (wrap64 (x5 + 1)) x102000 x102001 x102002) else (none)) else (none))) else (none)) else (sr30_text.l2 k x3 0 x102000 x102001 x102002)
def sr30_text.l2 : Nat → ByteArray → Int → List (S23) → List (S23) → List (S23) → Option (ByteArray)
  | 0,_,_,_,_,_ => none
  | k + 1,x3,x6,x102000,x102001,x102002 => if x6 < (x102002.length : Int) then (if 0 ≤ x6 then ((sr30_Line.f (⟨#[109,101,116,104,111,100]⟩ : ByteArray) ((rd_T23 x102002 x6).f0) ((rd_T23 x102002 x6).f1)).bind fun t107 => (if t107.size + 1 ≤ 9223372036854775807 then (if x3.size + (t107 ++ (⟨#[10]⟩ : ByteArray)).size ≤ 9223372036854775807 then (sr30_text.l2 k (x3 ++ (t107 ++ (⟨#[10]⟩ : ByteArray))) (wrap64 (x6 + 1)) x102000 x102001 x102002) else (none)) else (none))) else (none)) else (some x3)
end
def sr30_text.f (k : Nat) (l0_0 : List (S23)) (l0_1 : List (S23)) (l0_2 : List (S23)) : Option (ByteArray) := sr30_text.l0 k (⟨#[]⟩ : ByteArray) 0 l0_0 l0_1 l0_2
theorem sr30_text.calls (k : Nat) (A0_0 : Option Addr) (c0_0 : Nat) (l0_0 : List (S23)) (A0_1 : Option Addr) (c0_1 : Nat) (l0_1 : List (S23)) (A0_2 : Option Addr) (c0_2 : Nat) (l0_2 : List (S23)) (r : ByteArray) (w : World) (hr0_0 : Kd.C k23 w A0_0 l0_0.length l0_0) (hc0_0 : l0_0.length ≤ c0_0) (hr0_1 : Kd.C k23 w A0_1 l0_1.length l0_1) (hc0_1 : l0_1.length ≤ c0_1) (hr0_2 : Kd.C k23 w A0_2 l0_2.length l0_2) (hc0_2 : l0_2.length ≤ c0_2) (h : sr30_text.f k l0_0 l0_1 l0_2 = some r) :
    Calls Tryz.prog 30 #[.agg #[.slice A0_0 l0_0.length c0_0,.slice A0_1 l0_1.length c0_1,.slice A0_2 l0_2.length c0_2]] w fun e w' => e = .returned (.string r) ∧ Below w.heap.size w w':=by
 have hu34:=Tryz.underlying34
 have hu23:=Tryz.underlying23
 have HR0_0:=aq hr0_0
 have HC0_0:=aq hc0_0
 clear hr0_0 hc0_0
 have HR0_1:=aq hr0_1
 have HC0_1:=aq hc0_1
 clear hr0_1 hc0_1
 have HR0_2:=aq hr0_2
 have HC0_2:=aq hc0_2
 clear hr0_2 hc0_2
 have HB:=aq (Below.refl w.heap.size w)
 have H : (sr30_text.l0 k (⟨#[]⟩ : ByteArray) 0 l0_0 l0_1 l0_2) = some r:=h
 clear h
 have H':=aq H
 clear H
 go_enter Tryz.func30,Tryz.ntmps30
 go_wp2_with (first|((with_reducible refine gate_dst (N:=1) rfl ?_);refine box_event rfl (N:=1) rfl (cs:=#[.slice A0_0 l0_0.length c0_0,.slice A0_1 l0_1.length c0_1,.slice A0_2 l0_2.length c0_2]) (t:=34) gS ?_;intro gb101 hg w2 hbox hb;have BK101:=aq (hbox);have GE101:=aq ((GN hg : w.heap.size ≤ gb101));replace HB:=aq (below_step bH hb);clear hb hbox hg))
 go_loopg [3,4] k (fun kq v3 v4 w' => ∃ (x3_1 : ByteArray) (x4_1 : Int),v3 = .string x3_1 ∧ v4 = .int .i64 x4_1 ∧ Aside0 (sr30_text.l0 kq x3_1 x4_1 l0_0 l0_1 l0_2 = some r) ∧ Aside0 (kq ≤ k) ∧ Aside0 (w'.heap[gb101]? = some (.cells #[(.slice A0_0 l0_0.length c0_0),(.slice A0_1 l0_1.length c0_1),(.slice A0_2 l0_2.length c0_2)] 34 (0,0))) ∧ Aside0 (Below w.heap.size w w'))
 case atStart => exact ⟨((⟨#[]⟩ : ByteArray)),(0),eS,eS,H',⟨Nat.le_refl _⟩,⟨KU BK101.out⟩,⟨bH⟩⟩
 case round =>
 clear H'
 obtain ⟨x3_1,x4_1,rfl,rfl,HA,HK1,BK101,HB⟩:=hrel
 cases gk with
 | zero => exact absurd HA.out (by simp [sr30_text.l0])
 | succ k1 =>
 have H:=HA.out
 clear HA
 simp only [sr30_text.l0] at H
 by_cases c3 : x4_1 < (l0_0.length : Int)
 · rw [if_pos c3] at H
   have c3b0 : decide (x4_1 < (l0_0.length : Int)) = true:=decide_eq_true c3
   clear c3
   by_cases c4 : 0 ≤ x4_1
   rotate_left
   · rw [if_neg c4] at H
     exact absurd H (by simp)
   rw [if_pos c4] at H
   have c4b0 : decide (0 ≤ x4_1) = true:=decide_eq_true c4
   clear c4
   replace H:=Option.bind_eq_some_iff.mp H
   obtain ⟨t103,A50,H⟩:=H
   have A5:=aq A50
   clear A50
   by_cases c6 : t103.size + 1 ≤ 9223372036854775807
   rotate_left
   · rw [if_neg c6] at H
     exact absurd H (by simp)
   rw [if_pos c6] at H
   have c6b0:=eq_true c6
   have c6b1 : decide (t103.size + 1 ≤ 9223372036854775807) = true:=decide_eq_true c6
   try have c6b2 : (9223372036854775807 < t103.size + 1) = False:=eq_false (Nat.not_lt.2 c6)
   by_cases c7 : x3_1.size + (t103 ++ (⟨#[10]⟩ : ByteArray)).size ≤ 9223372036854775807
   rotate_left
   · rw [if_neg c7] at H
     exact absurd H (by simp)
   rw [if_pos c7] at H
   have c7b0:=eq_true c7
   have c7b1 : decide (x3_1.size + (t103 ++ (⟨#[10]⟩ : ByteArray)).size ≤ 9223372036854775807) = true:=decide_eq_true c7
   try have c7b2 : (9223372036854775807 < x3_1.size + (t103 ++ (⟨#[10]⟩ : ByteArray)).size) = False:=eq_false (Nat.not_lt.2 c7)
   try have c7b3 : (9223372036854775807 < x3_1.size + (t103.size + 1)) = False:=eq_false (Nat.not_lt.2 (by have h_:=c7;simp only [ByteArray.size_append] at h_;exact h_))
   have H':=aq H
   clear H
   have hcz8_0 : wr.cell? ⟨gb101,0,none⟩ = some (.slice A0_0 l0_0.length c0_0):=(blk_cell BK101.out 0).trans rfl
   have hcz8_1 : wr.cell? ⟨gb101,1,none⟩ = some (.slice A0_1 l0_1.length c0_1):=(blk_cell BK101.out 1).trans rfl
   have hcz8_2 : wr.cell? ⟨gb101,2,none⟩ = some (.slice A0_2 l0_2.length c0_2):=(blk_cell BK101.out 2).trans rfl
   have hfz8_0:=blk_frozen BK101.out 0
   have hfz8_1:=blk_frozen BK101.out 1
   have hfz8_2:=blk_frozen BK101.out 2
   have p102 : 0 ≤ (x4_1 : Int):=of_decide_eq_true aS
   have q102 : x4_1 < (l0_0.length : Int):=of_decide_eq_true aS
   obtain ⟨ad102,e102,hx102_0,hx102_1⟩:=at_T23 HR0_0.out x4_1 p102 q102
   cases e102
   replace hx102_0:=(HB.out.cell (World.block_lt_of_cell? w _ hx102_0)).trans hx102_0
   replace hx102_1:=(HB.out.cell (World.block_lt_of_cell? w _ hx102_1)).trans hx102_1
   replace p102:=eq_true p102
   replace q102:=eq_true q102
   go_wp2_with (first|((with_reducible refine gate_callee (f:=10) rfl ?_);refine goesL_ (some 20) rfl rfl Tryz.func10 (by kernel_rfl) rfl #[.string (⟨#[99,108,97,115,115]⟩ : ByteArray),.agg #[.string ((rd_T23 l0_0 x4_1).f0),.string ((rd_T23 l0_0 x4_1).f1)]] rfl eA ?_;(with_reducible refine (sr30_Line.calls (⟨#[99,108,97,115,115]⟩ : ByteArray) ((rd_T23 l0_0 x4_1).f0) ((rd_T23 l0_0 x4_1).f1) t103 _ A5.out).mono ?_);rintro e w9 ⟨rfl,hb⟩;refine ⟨_,rfl,?_⟩;replace BK101:=KN BK101 hb;replace HB:=aq (below_step bH hb);(try clear hb);(try clear hb2);(try clear hk);(try clear hi)))
   go_roundg k1
   case measure => have:=HK1.out;omega
   case rel => exact ⟨(x3_1 ++ (t103 ++ (⟨#[10]⟩ : ByteArray))),(wrap64 (x4_1 + 1)),eS,eS,H',⟨by have:=HK1.out;omega⟩,⟨KU BK101.out⟩,⟨bH⟩⟩
 rw [if_neg c3] at H
 have c3b0 : decide (x4_1 < (l0_0.length : Int)) = false:=decide_eq_false c3
 clear c3
 have H':=aq H
 clear H
 have hcz10_0 : wr.cell? ⟨gb101,0,none⟩ = some (.slice A0_0 l0_0.length c0_0):=(blk_cell BK101.out 0).trans rfl
 have hcz10_1 : wr.cell? ⟨gb101,1,none⟩ = some (.slice A0_1 l0_1.length c0_1):=(blk_cell BK101.out 1).trans rfl
 have hcz10_2 : wr.cell? ⟨gb101,2,none⟩ = some (.slice A0_2 l0_2.length c0_2):=(blk_cell BK101.out 2).trans rfl
 have hfz10_0:=blk_frozen BK101.out 0
 have hfz10_1:=blk_frozen BK101.out 1
 have hfz10_2:=blk_frozen BK101.out 2
 go_wp2
 go_loopg [3,5] k1 (fun kq v3 v5 w' => ∃ (x3_2 : ByteArray) (x5_2 : Int),v3 = .string x3_2 ∧ v5 = .int .i64 x5_2 ∧ Aside0 (sr30_text.l1 kq x3_2 x5_2 l0_0 l0_1 l0_2 = some r) ∧ Aside0 (kq ≤ k1) ∧ Aside0 (w'.heap[gb101]? = some (.cells #[(.slice A0_0 l0_0.length c0_0),(.slice A0_1 l0_1.length c0_1),(.slice A0_2 l0_2.length c0_2)] 34 (0,0))) ∧ Aside0 (Below w.heap.size w w'))
 case atStart => exact ⟨(x3_1),(0),eS,eS,H',⟨Nat.le_refl _⟩,⟨KU BK101.out⟩,⟨bH⟩⟩
 case round =>
 clear H'
 (try clear c3);(try clear c3b0);(try clear hcz10_0);(try clear hcz10_1);(try clear hcz10_2);(try clear hfz10_0);(try clear hfz10_1);(try clear hfz10_2)
 obtain ⟨x3_2,x5_2,rfl,rfl,HA,HK2,BK101,HB⟩:=hrel
 cases gk with
 | zero => exact absurd HA.out (by simp [sr30_text.l1])
 | succ k2 =>
 have H:=HA.out
 clear HA
 simp only [sr30_text.l1] at H
 by_cases c11 : x5_2 < (l0_1.length : Int)
 · rw [if_pos c11] at H
   have c11b0 : decide (x5_2 < (l0_1.length : Int)) = true:=decide_eq_true c11
   clear c11
   by_cases c12 : 0 ≤ x5_2
   rotate_left
   · rw [if_neg c12] at H
     exact absurd H (by simp)
   rw [if_pos c12] at H
   have c12b0 : decide (0 ≤ x5_2) = true:=decide_eq_true c12
   clear c12
   replace H:=Option.bind_eq_some_iff.mp H
   obtain ⟨t105,A130,H⟩:=H
   have A13:=aq A130
   clear A130
   by_cases c14 : t105.size + 1 ≤ 9223372036854775807
   rotate_left
   · rw [if_neg c14] at H
     exact absurd H (by simp)
   rw [if_pos c14] at H
   have c14b0:=eq_true c14
   have c14b1 : decide (t105.size + 1 ≤ 9223372036854775807) = true:=decide_eq_true c14
   try have c14b2 : (9223372036854775807 < t105.size + 1) = False:=eq_false (Nat.not_lt.2 c14)
   by_cases c15 : x3_2.size + (t105 ++ (⟨#[10]⟩ : ByteArray)).size ≤ 9223372036854775807
   rotate_left
   · rw [if_neg c15] at H
     exact absurd H (by simp)
   rw [if_pos c15] at H
   have c15b0:=eq_true c15
   have c15b1 : decide (x3_2.size + (t105 ++ (⟨#[10]⟩ : ByteArray)).size ≤ 9223372036854775807) = true:=decide_eq_true c15
   try have c15b2 : (9223372036854775807 < x3_2.size + (t105 ++ (⟨#[10]⟩ : ByteArray)).size) = False:=eq_false (Nat.not_lt.2 c15)
   try have c15b3 : (9223372036854775807 < x3_2.size + (t105.size + 1)) = False:=eq_false (Nat.not_lt.2 (by have h_:=c15;simp only [ByteArray.size_append] at h_;exact h_))
   have H':=aq H
   clear H
   have hcz16_0 : wr.cell? ⟨gb101,0,none⟩ = some (.slice A0_0 l0_0.length c0_0):=(blk_cell BK101.out 0).trans rfl
   have hcz16_1 : wr.cell? ⟨gb101,1,none⟩ = some (.slice A0_1 l0_1.length c0_1):=(blk_cell BK101.out 1).trans rfl
   have hcz16_2 : wr.cell? ⟨gb101,2,none⟩ = some (.slice A0_2 l0_2.length c0_2):=(blk_cell BK101.out 2).trans rfl
   have hfz16_0:=blk_frozen BK101.out 0
   have hfz16_1:=blk_frozen BK101.out 1
   have hfz16_2:=blk_frozen BK101.out 2
   have p104 : 0 ≤ (x5_2 : Int):=of_decide_eq_true aS
   have q104 : x5_2 < (l0_1.length : Int):=of_decide_eq_true aS
   obtain ⟨ad104,e104,hx104_0,hx104_1⟩:=at_T23 HR0_1.out x5_2 p104 q104
   cases e104
   replace hx104_0:=(HB.out.cell (World.block_lt_of_cell? w _ hx104_0)).trans hx104_0
   replace hx104_1:=(HB.out.cell (World.block_lt_of_cell? w _ hx104_1)).trans hx104_1
   replace p104:=eq_true p104
   replace q104:=eq_true q104
   go_wp2_with (first|((with_reducible refine gate_callee (f:=10) rfl ?_);refine goesL_ (some 36) rfl rfl Tryz.func10 (by kernel_rfl) rfl #[.string (⟨#[102,105,101,108,100]⟩ : ByteArray),.agg #[.string ((rd_T23 l0_1 x5_2).f0),.string ((rd_T23 l0_1 x5_2).f1)]] rfl eA ?_;(with_reducible refine (sr30_Line.calls (⟨#[102,105,101,108,100]⟩ : ByteArray) ((rd_T23 l0_1 x5_2).f0) ((rd_T23 l0_1 x5_2).f1) t105 _ A13.out).mono ?_);rintro e w17 ⟨rfl,hb⟩;refine ⟨_,rfl,?_⟩;replace BK101:=KN BK101 hb;replace HB:=aq (below_step bH hb);(try clear hb);(try clear hb2);(try clear hk);(try clear hi)))
   go_roundg k2
   case measure => have:=HK1.out;have:=HK2.out;omega
   case rel => exact ⟨(x3_2 ++ (t105 ++ (⟨#[10]⟩ : ByteArray))),(wrap64 (x5_2 + 1)),eS,eS,H',⟨by have:=HK1.out;have:=HK2.out;omega⟩,⟨KU BK101.out⟩,⟨bH⟩⟩
 rw [if_neg c11] at H
 have c11b0 : decide (x5_2 < (l0_1.length : Int)) = false:=decide_eq_false c11
 clear c11
 have H':=aq H
 clear H
 have hcz18_0 : wr.cell? ⟨gb101,0,none⟩ = some (.slice A0_0 l0_0.length c0_0):=(blk_cell BK101.out 0).trans rfl
 have hcz18_1 : wr.cell? ⟨gb101,1,none⟩ = some (.slice A0_1 l0_1.length c0_1):=(blk_cell BK101.out 1).trans rfl
 have hcz18_2 : wr.cell? ⟨gb101,2,none⟩ = some (.slice A0_2 l0_2.length c0_2):=(blk_cell BK101.out 2).trans rfl
 have hfz18_0:=blk_frozen BK101.out 0
 have hfz18_1:=blk_frozen BK101.out 1
 have hfz18_2:=blk_frozen BK101.out 2
 go_wp2
 go_loopg [3,6] k2 (fun kq v3 v6 w' => ∃ (x3_3 : ByteArray) (x6_3 : Int),v3 = .string x3_3 ∧ v6 = .int .i64 x6_3 ∧ Aside0 (sr30_text.l2 kq x3_3 x6_3 l0_0 l0_1 l0_2 = some r) ∧ Aside0 (kq ≤ k2) ∧ Aside0 (w'.heap[gb101]? = some (.cells #[(.slice A0_0 l0_0.length c0_0),(.slice A0_1 l0_1.length c0_1),(.slice A0_2 l0_2.length c0_2)] 34 (0,0))) ∧ Aside0 (Below w.heap.size w w'))
 case atStart => exact ⟨(x3_2),(0),eS,eS,H',⟨Nat.le_refl _⟩,⟨KU BK101.out⟩,⟨bH⟩⟩
 case round =>
 clear H'
 (try clear c3);(try clear c3b0);(try clear c11);(try clear c11b0);(try clear hcz10_0);(try clear hcz10_1);(try clear hcz10_2);(try clear hcz18_0);(try clear hcz18_1);(try clear hcz18_2);(try clear hfz10_0);(try clear hfz10_1);(try clear hfz10_2);(try clear hfz18_0);(try clear hfz18_1);(try clear hfz18_2)
 obtain ⟨x3_3,x6_3,rfl,rfl,HA,HK3,BK101,HB⟩:=hrel
 cases gk with
 | zero => exact absurd HA.out (by simp [sr30_text.l2])
 | succ k3 =>
 have H:=HA.out
 clear HA
 simp only [sr30_text.l2] at H
 by_cases c19 : x6_3 < (l0_2.length : Int)
 rotate_left
 · rw [if_neg c19] at H
   have c19b0 : decide (x6_3 < (l0_2.length : Int)) = false:=decide_eq_false c19
   clear c19
   obtain rfl:=Option.some.inj H
   have hcz26_0 : wr.cell? ⟨gb101,0,none⟩ = some (.slice A0_0 l0_0.length c0_0):=(blk_cell BK101.out 0).trans rfl
   have hcz26_1 : wr.cell? ⟨gb101,1,none⟩ = some (.slice A0_1 l0_1.length c0_1):=(blk_cell BK101.out 1).trans rfl
   have hcz26_2 : wr.cell? ⟨gb101,2,none⟩ = some (.slice A0_2 l0_2.length c0_2):=(blk_cell BK101.out 2).trans rfl
   have hfz26_0:=blk_frozen BK101.out 0
   have hfz26_1:=blk_frozen BK101.out 1
   have hfz26_2:=blk_frozen BK101.out 2
   go_wp2
   go_ret
   exact ⟨eR,bH⟩
 rw [if_pos c19] at H
 have c19b0 : decide (x6_3 < (l0_2.length : Int)) = true:=decide_eq_true c19
 clear c19
 by_cases c20 : 0 ≤ x6_3
 rotate_left
 · rw [if_neg c20] at H
   exact absurd H (by simp)
 rw [if_pos c20] at H
 have c20b0 : decide (0 ≤ x6_3) = true:=decide_eq_true c20
 clear c20
 replace H:=Option.bind_eq_some_iff.mp H
 obtain ⟨t107,A210,H⟩:=H
 have A21:=aq A210
 clear A210
 by_cases c22 : t107.size + 1 ≤ 9223372036854775807
 rotate_left
 · rw [if_neg c22] at H
   exact absurd H (by simp)
 rw [if_pos c22] at H
 have c22b0:=eq_true c22
 have c22b1 : decide (t107.size + 1 ≤ 9223372036854775807) = true:=decide_eq_true c22
 try have c22b2 : (9223372036854775807 < t107.size + 1) = False:=eq_false (Nat.not_lt.2 c22)
 by_cases c23 : x3_3.size + (t107 ++ (⟨#[10]⟩ : ByteArray)).size ≤ 9223372036854775807
 rotate_left
 · rw [if_neg c23] at H
   exact absurd H (by simp)
 rw [if_pos c23] at H
 have c23b0:=eq_true c23
 have c23b1 : decide (x3_3.size + (t107 ++ (⟨#[10]⟩ : ByteArray)).size ≤ 9223372036854775807) = true:=decide_eq_true c23
 try have c23b2 : (9223372036854775807 < x3_3.size + (t107 ++ (⟨#[10]⟩ : ByteArray)).size) = False:=eq_false (Nat.not_lt.2 c23)
 try have c23b3 : (9223372036854775807 < x3_3.size + (t107.size + 1)) = False:=eq_false (Nat.not_lt.2 (by have h_:=c23;simp only [ByteArray.size_append] at h_;exact h_))
 have H':=aq H
 clear H
 have hcz24_0 : wr.cell? ⟨gb101,0,none⟩ = some (.slice A0_0 l0_0.length c0_0):=(blk_cell BK101.out 0).trans rfl
 have hcz24_1 : wr.cell? ⟨gb101,1,none⟩ = some (.slice A0_1 l0_1.length c0_1):=(blk_cell BK101.out 1).trans rfl
 have hcz24_2 : wr.cell? ⟨gb101,2,none⟩ = some (.slice A0_2 l0_2.length c0_2):=(blk_cell BK101.out 2).trans rfl
 have hfz24_0:=blk_frozen BK101.out 0
 have hfz24_1:=blk_frozen BK101.out 1
 have hfz24_2:=blk_frozen BK101.out 2
 have p106 : 0 ≤ (x6_3 : Int):=of_decide_eq_true aS
 have q106 : x6_3 < (l0_2.length : Int):=of_decide_eq_true aS
 obtain ⟨ad106,e106,hx106_0,hx106_1⟩:=at_T23 HR0_2.out x6_3 p106 q106
 cases e106
 replace hx106_0:=(HB.out.cell (World.block_lt_of_cell? w _ hx106_0)).trans hx106_0
 replace hx106_1:=(HB.out.cell (World.block_lt_of_cell? w _ hx106_1)).trans hx106_1
 replace p106:=eq_true p106
 replace q106:=eq_true q106
 go_wp2_with (first|((with_reducible refine gate_callee (f:=10) rfl ?_);refine goesL_ (some 52) rfl rfl Tryz.func10 (by kernel_rfl) rfl #[.string (⟨#[109,101,116,104,111,100]⟩ : ByteArray),.agg #[.string ((rd_T23 l0_2 x6_3).f0),.string ((rd_T23 l0_2 x6_3).f1)]] rfl eA ?_;(with_reducible refine (sr30_Line.calls (⟨#[109,101,116,104,111,100]⟩ : ByteArray) ((rd_T23 l0_2 x6_3).f0) ((rd_T23 l0_2 x6_3).f1) t107 _ A21.out).mono ?_);rintro e w25 ⟨rfl,hb⟩;refine ⟨_,rfl,?_⟩;replace BK101:=KN BK101 hb;replace HB:=aq (below_step bH hb);(try clear hb);(try clear hb2);(try clear hk);(try clear hi)))
 go_roundg k3
 case measure => have:=HK1.out;have:=HK2.out;have:=HK3.out;omega
 case rel => exact ⟨(x3_3 ++ (t107 ++ (⟨#[10]⟩ : ByteArray))),(wrap64 (x6_3 + 1)),eS,eS,H',⟨by have:=HK1.out;have:=HK2.out;have:=HK3.out;omega⟩,⟨KU BK101.out⟩,⟨bH⟩⟩
def sr30_Print.f (k : Nat) (l0_0 : List (S23)) (l0_1 : List (S23)) (l0_2 : List (S23)) : Option (ByteArray × Int) := (sr29_Right.f l0_0 l0_1 l0_2).bind fun t109 => (if t109 = true then ((sr30_text.f k l0_0 l0_1 l0_2).bind fun t110 => (if (t110.size : Int) > 65536 then (some ((⟨#[]⟩ : ByteArray), 3)) else (some (t110, 0)))) else (some ((⟨#[]⟩ : ByteArray), 1)))
theorem sr30_Print.calls (k : Nat) (A0_0 : Option Addr) (c0_0 : Nat) (l0_0 : List (S23)) (A0_1 : Option Addr) (c0_1 : Nat) (l0_1 : List (S23)) (A0_2 : Option Addr) (c0_2 : Nat) (l0_2 : List (S23)) (r1 : ByteArray) (r2 : Int) (w : World) (hr0_0 : Kd.C k23 w A0_0 l0_0.length l0_0) (hc0_0 : l0_0.length ≤ c0_0) (hr0_1 : Kd.C k23 w A0_1 l0_1.length l0_1) (hc0_1 : l0_1.length ≤ c0_1) (hr0_2 : Kd.C k23 w A0_2 l0_2.length l0_2) (hc0_2 : l0_2.length ≤ c0_2) (h : sr30_Print.f k l0_0 l0_1 l0_2 = some (r1, r2)) :
    Calls Tryz.prog 14 #[.agg #[.slice A0_0 l0_0.length c0_0,.slice A0_1 l0_1.length c0_1,.slice A0_2 l0_2.length c0_2]] w fun e w' => e = .returned (.tuple #[.string r1,.int .i64 r2]) ∧ Below w.heap.size w w':=by
 have hu34:=Tryz.underlying34
 have HR0_0:=aq hr0_0
 have HC0_0:=aq hc0_0
 clear hr0_0 hc0_0
 have HR0_1:=aq hr0_1
 have HC0_1:=aq hc0_1
 clear hr0_1 hc0_1
 have HR0_2:=aq hr0_2
 have HC0_2:=aq hc0_2
 clear hr0_2 hc0_2
 have HB:=aq (Below.refl w.heap.size w)
 have H : ((sr29_Right.f l0_0 l0_1 l0_2).bind fun t109 => (if t109 = true then ((sr30_text.f k l0_0 l0_1 l0_2).bind fun t110 => (if (t110.size : Int) > 65536 then (some ((⟨#[]⟩ : ByteArray),3)) else (some (t110,0)))) else (some ((⟨#[]⟩ : ByteArray),1)))) = some (r1,r2):=h
 clear h
 replace H:=Option.bind_eq_some_iff.mp H
 obtain ⟨t109,A20,H⟩:=H
 have A2:=aq A20
 clear A20
 by_cases c3 : t109 = true
 rotate_left
 · replace c3:=Bool.eq_false_iff.mpr c3
   subst c3
   have H1 : (some ((⟨#[]⟩ : ByteArray),1)) = some (r1,r2):=by rw [if_neg (show ¬ (false = true) by decide)] at H;exact H
   clear H
   have H:=H1
   clear H1
   simp only [Option.some.injEq,Prod.mk.injEq] at H
   obtain ⟨rfl,rfl⟩:=H
   go_enter Tryz.func14,Tryz.ntmps14
   go_wp2_with (first|((with_reducible refine gate_dst (N:=1) rfl ?_);refine box_event rfl (N:=1) rfl (cs:=#[.slice A0_0 l0_0.length c0_0,.slice A0_1 l0_1.length c0_1,.slice A0_2 l0_2.length c0_2]) (t:=34) gS ?_;intro gb108 hg w16 hbox hb;have BK108:=aq (hbox);have GE108:=aq ((GN hg : w.heap.size ≤ gb108));replace HB:=aq (below_step bH hb);clear hb hbox hg;have hcz17_0 : w16.cell? ⟨gb108,0,none⟩ = some (.slice A0_0 l0_0.length c0_0):=(blk_cell BK108.out 0).trans rfl;have hcz17_1 : w16.cell? ⟨gb108,1,none⟩ = some (.slice A0_1 l0_1.length c0_1):=(blk_cell BK108.out 1).trans rfl;have hcz17_2 : w16.cell? ⟨gb108,2,none⟩ = some (.slice A0_2 l0_2.length c0_2):=(blk_cell BK108.out 2).trans rfl;have hfz17_0:=blk_frozen BK108.out 0;have hfz17_1:=blk_frozen BK108.out 1;have hfz17_2:=blk_frozen BK108.out 2)|((with_reducible refine gate_callee (f:=29) rfl ?_);refine goesL_ (some 6) rfl rfl Tryz.func29 (by kernel_rfl) rfl #[.agg #[.slice A0_0 l0_0.length c0_0,.slice A0_1 l0_1.length c0_1,.slice A0_2 l0_2.length c0_2]] rfl eA ?_;(with_reducible refine (sr29_Right.calls _ _ l0_0 _ _ l0_1 _ _ l0_2 false _ ?side1 ?side2 ?side3 ?side4 ?side5 ?side6 A2.out).mono ?_);(case side1 => exact CU HR0_0);(case side2 => exact HC0_0.out);(case side3 => exact CU HR0_1);(case side4 => exact HC0_1.out);(case side5 => exact CU HR0_2);(case side6 => exact HC0_2.out);rintro e w18 ⟨rfl,hb⟩;refine ⟨_,rfl,?_⟩;replace BK108:=KN BK108 hb;replace HB:=aq (below_step bH hb);(try clear hb);(try clear hb2);(try clear hk);(try clear hi)))
   go_ret2
   exact ⟨eR,bH⟩
 subst c3
 have H1 : ((sr30_text.f k l0_0 l0_1 l0_2).bind fun t110 => (if (t110.size : Int) > 65536 then (some ((⟨#[]⟩ : ByteArray),3)) else (some (t110,0)))) = some (r1,r2):=by rw [if_pos rfl] at H;exact H
 clear H
 have H:=H1
 clear H1
 replace H:=Option.bind_eq_some_iff.mp H
 obtain ⟨t110,A40,H⟩:=H
 have A4:=aq A40
 clear A40
 by_cases c5 : (t110.size : Int) > 65536
 · rw [if_pos c5] at H
   have c5b0 : decide (65536 < (t110.size : Int)) = true:=decide_eq_true c5
   have c5b1 : decide (65536 < t110.size) = true:=decide_eq_true (by omega)
   clear c5
   simp only [Option.some.injEq,Prod.mk.injEq] at H
   obtain ⟨rfl,rfl⟩:=H
   go_enter Tryz.func14,Tryz.ntmps14
   go_wp2_with (first|((with_reducible refine gate_dst (N:=1) rfl ?_);refine box_event rfl (N:=1) rfl (cs:=#[.slice A0_0 l0_0.length c0_0,.slice A0_1 l0_1.length c0_1,.slice A0_2 l0_2.length c0_2]) (t:=34) gS ?_;intro gb108 hg w6 hbox hb;have BK108:=aq (hbox);have GE108:=aq ((GN hg : w.heap.size ≤ gb108));replace HB:=aq (below_step bH hb);clear hb hbox hg;have hcz7_0 : w6.cell? ⟨gb108,0,none⟩ = some (.slice A0_0 l0_0.length c0_0):=(blk_cell BK108.out 0).trans rfl;have hcz7_1 : w6.cell? ⟨gb108,1,none⟩ = some (.slice A0_1 l0_1.length c0_1):=(blk_cell BK108.out 1).trans rfl;have hcz7_2 : w6.cell? ⟨gb108,2,none⟩ = some (.slice A0_2 l0_2.length c0_2):=(blk_cell BK108.out 2).trans rfl;have hfz7_0:=blk_frozen BK108.out 0;have hfz7_1:=blk_frozen BK108.out 1;have hfz7_2:=blk_frozen BK108.out 2)|((with_reducible refine gate_callee (f:=29) rfl ?_);refine goesL_ (some 6) rfl rfl Tryz.func29 (by kernel_rfl) rfl #[.agg #[.slice A0_0 l0_0.length c0_0,.slice A0_1 l0_1.length c0_1,.slice A0_2 l0_2.length c0_2]] rfl eA ?_;(with_reducible refine (sr29_Right.calls _ _ l0_0 _ _ l0_1 _ _ l0_2 true _ ?side1 ?side2 ?side3 ?side4 ?side5 ?side6 A2.out).mono ?_);(case side1 => exact CU HR0_0);(case side2 => exact HC0_0.out);(case side3 => exact CU HR0_1);(case side4 => exact HC0_1.out);(case side5 => exact CU HR0_2);(case side6 => exact HC0_2.out);rintro e w8 ⟨rfl,hb⟩;refine ⟨_,rfl,?_⟩;replace BK108:=KN BK108 hb;replace HB:=aq (below_step bH hb);(try clear hb);(try clear hb2);(try clear hk);(try clear hi);have hcz9_0 : w8.cell? ⟨gb108,0,none⟩ = some (.slice A0_0 l0_0.length c0_0):=(blk_cell BK108.out 0).trans rfl;have hcz9_1 : w8.cell? ⟨gb108,1,none⟩ = some (.slice A0_1 l0_1.length c0_1):=(blk_cell BK108.out 1).trans rfl;have hcz9_2 : w8.cell? ⟨gb108,2,none⟩ = some (.slice A0_2 l0_2.length c0_2):=(blk_cell BK108.out 2).trans rfl;have hfz9_0:=blk_frozen BK108.out 0;have hfz9_1:=blk_frozen BK108.out 1;have hfz9_2:=blk_frozen BK108.out 2)|((with_reducible refine gate_callee (f:=30) rfl ?_);refine goesL_ (some 9) rfl rfl Tryz.func30 (by kernel_rfl) rfl #[.agg #[.slice A0_0 l0_0.length c0_0,.slice A0_1 l0_1.length c0_1,.slice A0_2 l0_2.length c0_2]] rfl eA ?_;(with_reducible refine (sr30_text.calls k _ _ l0_0 _ _ l0_1 _ _ l0_2 t110 _ ?side1 ?side2 ?side3 ?side4 ?side5 ?side6 A4.out).mono ?_);(case side1 => exact CU HR0_0);(case side2 => exact HC0_0.out);(case side3 => exact CU HR0_1);(case side4 => exact HC0_1.out);(case side5 => exact CU HR0_2);(case side6 => exact HC0_2.out);rintro e w10 ⟨rfl,hb⟩;refine ⟨_,rfl,?_⟩;replace BK108:=KN BK108 hb;replace HB:=aq (below_step bH hb);(try clear hb);(try clear hb2);(try clear hk);(try clear hi)))
   go_ret2
   exact ⟨eR,bH⟩
 rw [if_neg c5] at H
 have c5b0 : decide (65536 < (t110.size : Int)) = false:=decide_eq_false c5
 have c5b1 : decide (65536 < t110.size) = false:=decide_eq_false (by omega)
 clear c5
 simp only [Option.some.injEq,Prod.mk.injEq] at H
 obtain ⟨rfl,rfl⟩:=H
 go_enter Tryz.func14,Tryz.ntmps14
 go_wp2_with (first|((with_reducible refine gate_dst (N:=1) rfl ?_);refine box_event rfl (N:=1) rfl (cs:=#[.slice A0_0 l0_0.length c0_0,.slice A0_1 l0_1.length c0_1,.slice A0_2 l0_2.length c0_2]) (t:=34) gS ?_;intro gb108 hg w11 hbox hb;have BK108:=aq (hbox);have GE108:=aq ((GN hg : w.heap.size ≤ gb108));replace HB:=aq (below_step bH hb);clear hb hbox hg;have hcz12_0 : w11.cell? ⟨gb108,0,none⟩ = some (.slice A0_0 l0_0.length c0_0):=(blk_cell BK108.out 0).trans rfl;have hcz12_1 : w11.cell? ⟨gb108,1,none⟩ = some (.slice A0_1 l0_1.length c0_1):=(blk_cell BK108.out 1).trans rfl;have hcz12_2 : w11.cell? ⟨gb108,2,none⟩ = some (.slice A0_2 l0_2.length c0_2):=(blk_cell BK108.out 2).trans rfl;have hfz12_0:=blk_frozen BK108.out 0;have hfz12_1:=blk_frozen BK108.out 1;have hfz12_2:=blk_frozen BK108.out 2)|((with_reducible refine gate_callee (f:=29) rfl ?_);refine goesL_ (some 6) rfl rfl Tryz.func29 (by kernel_rfl) rfl #[.agg #[.slice A0_0 l0_0.length c0_0,.slice A0_1 l0_1.length c0_1,.slice A0_2 l0_2.length c0_2]] rfl eA ?_;(with_reducible refine (sr29_Right.calls _ _ l0_0 _ _ l0_1 _ _ l0_2 true _ ?side1 ?side2 ?side3 ?side4 ?side5 ?side6 A2.out).mono ?_);(case side1 => exact CU HR0_0);(case side2 => exact HC0_0.out);(case side3 => exact CU HR0_1);(case side4 => exact HC0_1.out);(case side5 => exact CU HR0_2);(case side6 => exact HC0_2.out);rintro e w13 ⟨rfl,hb⟩;refine ⟨_,rfl,?_⟩;replace BK108:=KN BK108 hb;replace HB:=aq (below_step bH hb);(try clear hb);(try clear hb2);(try clear hk);(try clear hi);have hcz14_0 : w13.cell? ⟨gb108,0,none⟩ = some (.slice A0_0 l0_0.length c0_0):=(blk_cell BK108.out 0).trans rfl;have hcz14_1 : w13.cell? ⟨gb108,1,none⟩ = some (.slice A0_1 l0_1.length c0_1):=(blk_cell BK108.out 1).trans rfl;have hcz14_2 : w13.cell? ⟨gb108,2,none⟩ = some (.slice A0_2 l0_2.length c0_2):=(blk_cell BK108.out 2).trans rfl;have hfz14_0:=blk_frozen BK108.out 0;have hfz14_1:=blk_frozen BK108.out 1;have hfz14_2:=blk_frozen BK108.out 2)|((with_reducible refine gate_callee (f:=30) rfl ?_);refine goesL_ (some 9) rfl rfl Tryz.func30 (by kernel_rfl) rfl #[.agg #[.slice A0_0 l0_0.length c0_0,.slice A0_1 l0_1.length c0_1,.slice A0_2 l0_2.length c0_2]] rfl eA ?_;(with_reducible refine (sr30_text.calls k _ _ l0_0 _ _ l0_1 _ _ l0_2 t110 _ ?side1 ?side2 ?side3 ?side4 ?side5 ?side6 A4.out).mono ?_);(case side1 => exact CU HR0_0);(case side2 => exact HC0_0.out);(case side3 => exact CU HR0_1);(case side4 => exact HC0_1.out);(case side5 => exact CU HR0_2);(case side6 => exact HC0_2.out);rintro e w15 ⟨rfl,hb⟩;refine ⟨_,rfl,?_⟩;replace BK108:=KN BK108 hb;replace HB:=aq (below_step bH hb);(try clear hb);(try clear hb2);(try clear hk);(try clear hi)))
 go_ret2
 exact ⟨eR,bH⟩
end Go.Proofs.YtaokkkolbifdpaaGreatDoor.Q35
end
