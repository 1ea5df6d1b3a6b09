import Derived.Test.YtfplcohjnlbfjaaMgGenWithin1
import Derived.Test.YtfplcohjnlbfjaaMgGenWithin5
import Derived.Test.YtfplcohjnlbfjaaMgGenWithin4
import Derived.Test.YtfplcohjnlbfjaaRows
import Derived.OpenShut
import Derived.SliceStrings
import Derived.ProofKit
import Derived.Test.YtfplcohjnlbfjaaMgGenWithin0
import Derived.ChangeSame
import Derived.Lib.SmallJoins
import Derived.SizedLaws
import Derived.Laws.Cover1
set_option linter.unusedVariables false
set_option linter.unusedSimpArgs false
set_option maxHeartbeats 64000000
set_option maxRecDepth 100000
section
namespace Go.Proofs.Ytfplcohjnlbfjaa.Q54
open Go.RowKit Go.Proofs.YtfplcohjnlbfjaaW
open PrintWords PrintLast PrintMore Go.Proofs.Ytfplcohjnlbfjaa.Hand
attribute [local go_sem] max2_int min2_int max_two min_two max_three min_three max_four min_four
mutual
def sr07_Shape.j0 : Nat → Int → Bool → Option (ByteArray)
  | 0,_,_ => none
  | k + 1,x3,x6 => if x6 = true then (some (⟨#[97]⟩ : ByteArray)) else (if x3 = 4 then (sr07_Shape.j1 k x3 (x3 == 4)) else (if x3 = 10 then (sr07_Shape.j1 k x3 (x3 == 10)) else (if x3 = 12 then (sr07_Shape.j1 k x3 (x3 == 12)) else (if x3 = 28 then (sr07_Shape.j1 k x3 (x3 == 28)) else (sr07_Shape.j1 k x3 (x3 == 29))))))
def sr07_Shape.j1 : Nat → Int → Bool → Option (ByteArray)
  | 0,_,_ => none
  | k + 1,x3,x9 => if x9 = true then (some (⟨#[97,98]⟩ : ByteArray)) else (if x3 = 5 then (some (⟨#[97,98,99,114]⟩ : ByteArray)) else (if x3 = 6 then (some (⟨#[116]⟩ : ByteArray)) else (if x3 = 7 then (sr07_Shape.j2 k x3 (x3 == 7)) else (sr07_Shape.j2 k x3 (x3 == 8)))))
def sr07_Shape.j2 : Nat → Int → Bool → Option (ByteArray)
  | 0,_,_ => none
  | k + 1,x3,x19 => if x19 = true then (some (⟨#[98,116]⟩ : ByteArray)) else (if x3 = 9 then (some (⟨#[97,67]⟩ : ByteArray)) else (if x3 = 11 then (sr07_Shape.j3 k x3 (x3 == 11)) else (if x3 = 24 then (sr07_Shape.j3 k x3 (x3 == 24)) else (sr07_Shape.j3 k x3 (x3 == 25)))))
def sr07_Shape.j3 : Nat → Int → Bool → Option (ByteArray)
  | 0,_,_ => none
  | k + 1,x3,x24 => if x24 = true then (some (⟨#[97,98,67]⟩ : ByteArray)) else (if x3 = 13 then (sr07_Shape.j4 k x3 (x3 == 13)) else (sr07_Shape.j4 k x3 (x3 == 14)))
def sr07_Shape.j4 : Nat → Int → Bool → Option (ByteArray)
  | 0,_,_ => none
  | k + 1,x3,x28 => if x28 = true then (some (⟨#[97,98,99]⟩ : ByteArray)) else (if x3 = 15 then (some (⟨#[97,98,70]⟩ : ByteArray)) else (if x3 = 16 then (some (⟨#[98,99,70]⟩ : ByteArray)) else (if x3 = 17 then (some (⟨#[97,70]⟩ : ByteArray)) else (if x3 = 18 then (some (⟨#[99,70]⟩ : ByteArray)) else (if x3 = 19 then (sr07_Shape.j5 k x3 (x3 == 19)) else (if x3 = 20 then (sr07_Shape.j5 k x3 (x3 == 20)) else (sr07_Shape.j5 k x3 (x3 == 21))))))))
def sr07_Shape.j5 : Nat → Int → Bool → Option (ByteArray)
  | 0,_,_ => none
  | k + 1,x3,x39 => if x39 = true then (some (⟨#[97,77,118]⟩ : ByteArray)) else (if x3 = 22 then (sr07_Shape.j6 k x3 (x3 == 22)) else (if x3 = 27 then (sr07_Shape.j6 k x3 (x3 == 27)) else (sr07_Shape.j6 k x3 (x3 == 31))))
def sr07_Shape.j6 : Nat → Int → Bool → Option (ByteArray)
  | 0,_,_ => none
  | k + 1,x3,x43 => if x43 = true then (some (⟨#[98]⟩ : ByteArray)) else (if x3 = 30 then (some (⟨#[107]⟩ : ByteArray)) else (if x3 = 32 then (some (⟨#[67]⟩ : ByteArray)) else (some (⟨#[]⟩ : ByteArray))))
end
def sr07_Shape.f (k : Nat) (a0 : Int) : Option (ByteArray) := if a0 = 2 then (some (⟨#[97, 107]⟩ : ByteArray)) else (if a0 = 3 then (sr07_Shape.j0 k a0 (a0 == 3)) else (sr07_Shape.j0 k a0 (a0 == 26)))
theorem sr07_Shape.calls (k : Nat) (a0 : Int) (r : ByteArray) (w : World) (h : sr07_Shape.f k a0 = some r) :
    Calls Try.prog 75 #[.int .i64 a0] w fun e w' => e = .returned (.string r) ∧ Drawn0 w w':=by
 have H : (if a0 = 2 then (some (⟨#[97,107]⟩ : ByteArray)) else (if a0 = 3 then (sr07_Shape.j0 k a0 (a0 == 3)) else (sr07_Shape.j0 k a0 (a0 == 26)))) = some r:=h
 clear h
 by_cases c2 : a0 = 2
 · rw [if_pos c2] at H
   have c2b0 : (a0 == 2) = true:=beq_iff_eq.mpr c2
   have c2b1 : (a0 != 2) = false:=bne_eq_false_iff_eq.mpr c2
   clear c2
   obtain rfl:=Option.some.inj H
   go_enter Try.func75,Try.ntmps75
   go_wp2
   go_ret
   exact ⟨eS,dR⟩
 rw [if_neg c2] at H
 have c2b0 : (a0 == 2) = false:=beq_eq_false_iff_ne.mpr c2
 have c2b1 : (a0 != 2) = true:=bne_iff_ne.mpr c2
 have HC3:=aq H
 clear H
 go_enter Try.func75,Try.ntmps75
 go_upto_if 6 with (fail)
 go_cut [6] (fun v6 wc => ∃ (kq : Nat) (x6_2 : Bool),v6 = .bool x6_2 ∧ Aside0 (sr07_Shape.j0 kq a0 x6_2 = some r) ∧ Aside0 (kq ≤ k) ∧ Drawn0 w wc)
 case first =>
  have H:=HC3.out
  clear HC3
  by_cases c4 : a0 = 3
  rotate_left
  · rw [if_neg c4] at H
    have c4b0 : (a0 == 3) = false:=beq_eq_false_iff_ne.mpr c4
    have c4b1 : (a0 != 3) = true:=bne_iff_ne.mpr c4
    (first|rw [c4b0]|rw [c4b1]|(simp only [i64_w,i32_w];rw [c4b0])|skip)
    have H':=aq H
    clear H
    go_wp2
    go_meet
    case rel => exact ⟨_,((a0 == 26)),eS,H',⟨by first|omega|exact Nat.le_refl _⟩,dR⟩
  rw [if_pos c4] at H
  have c4b0 : (a0 == 3) = true:=beq_iff_eq.mpr c4
  have c4b1 : (a0 != 3) = false:=bne_eq_false_iff_eq.mpr c4
  clear c4
  (first|rw [c4b0]|rw [c4b1]|(simp only [i64_w,i32_w];rw [c4b0])|skip)
  have H':=aq H
  clear H
  go_wp2
  go_meet
  case rel => exact ⟨_,((a0 == 3)),eS,H',⟨by first|omega|exact Nat.le_refl _⟩,dR⟩
 case rest =>
 clear HC3
 (try clear c2);(try clear c2b0);(try clear c2b1)
 obtain ⟨kq,x6_2,rfl,HA,HJ2,⟨mc2,rfl⟩⟩:=hcut
 cases kq with
 | zero => exact absurd HA.out (by simp [sr07_Shape.j0])
 | succ kj2 =>
 have H:=HA.out
 clear HA
 simp only [sr07_Shape.j0] at H
 by_cases c5 : x6_2 = true
 · subst c5
   have H1 : (some (⟨#[97]⟩ : ByteArray)) = some r:=by rw [if_pos rfl] at H;exact H
   clear H
   have H:=H1
   clear H1
   obtain rfl:=Option.some.inj H
   go_wp2
   go_ret
   exact ⟨eS,dR⟩
 replace c5:=Bool.eq_false_iff.mpr c5
 subst c5
 have H1 : (if a0 = 4 then (sr07_Shape.j1 kj2 a0 (a0 == 4)) else (if a0 = 10 then (sr07_Shape.j1 kj2 a0 (a0 == 10)) else (if a0 = 12 then (sr07_Shape.j1 kj2 a0 (a0 == 12)) else (if a0 = 28 then (sr07_Shape.j1 kj2 a0 (a0 == 28)) else (sr07_Shape.j1 kj2 a0 (a0 == 29)))))) = some r:=by rw [if_neg (show ¬ (false = true) by decide)] at H;exact H
 clear H
 have H:=H1
 clear H1
 have HC6:=aq H
 clear H
 go_upto_if 9 with (fail)
 go_cut [9] (fun v9 wc => ∃ (kq : Nat) (x9_5 : Bool),v9 = .bool x9_5 ∧ Aside0 (sr07_Shape.j1 kq a0 x9_5 = some r) ∧ Aside0 (kq ≤ kj2) ∧ Drawn0 w wc)
 case first =>
  have H:=HC6.out
  clear HC6
  by_cases c7 : a0 = 4
  · rw [if_pos c7] at H
    have c7b0 : (a0 == 4) = true:=beq_iff_eq.mpr c7
    have c7b1 : (a0 != 4) = false:=bne_eq_false_iff_eq.mpr c7
    clear c7
    (first|rw [c7b0]|rw [c7b1]|(simp only [i64_w,i32_w];rw [c7b0])|skip)
    have H':=aq H
    clear H
    go_wp2
    go_meet
    case rel => exact ⟨_,((a0 == 4)),eS,H',⟨by have:=HJ2.out;first|omega|exact Nat.le_refl _⟩,dR⟩
  rw [if_neg c7] at H
  have c7b0 : (a0 == 4) = false:=beq_eq_false_iff_ne.mpr c7
  have c7b1 : (a0 != 4) = true:=bne_iff_ne.mpr c7
  (first|rw [c7b0]|rw [c7b1]|(simp only [i64_w,i32_w];rw [c7b0])|skip)
  by_cases c8 : a0 = 10
  · rw [if_pos c8] at H
    have c8b0 : (a0 == 10) = true:=beq_iff_eq.mpr c8
    have c8b1 : (a0 != 10) = false:=bne_eq_false_iff_eq.mpr c8
    clear c8
    have H':=aq H
    clear H
    go_wp2
    go_meet
    case rel => exact ⟨_,((a0 == 10)),eS,H',⟨by have:=HJ2.out;first|omega|exact Nat.le_refl _⟩,dR⟩
  rw [if_neg c8] at H
  have c8b0 : (a0 == 10) = false:=beq_eq_false_iff_ne.mpr c8
  have c8b1 : (a0 != 10) = true:=bne_iff_ne.mpr c8
  by_cases c9 : a0 = 12
  · rw [if_pos c9] at H
    have c9b0 : (a0 == 12) = true:=beq_iff_eq.mpr c9
    have c9b1 : (a0 != 12) = false:=bne_eq_false_iff_eq.mpr c9
    clear c9
    have H':=aq H
    clear H
    go_wp2
    go_meet
    case rel => exact ⟨_,((a0 == 12)),eS,H',⟨by have:=HJ2.out;first|omega|exact Nat.le_refl _⟩,dR⟩
  rw [if_neg c9] at H
  have c9b0 : (a0 == 12) = false:=beq_eq_false_iff_ne.mpr c9
  have c9b1 : (a0 != 12) = true:=bne_iff_ne.mpr c9
  by_cases c10 : a0 = 28
  rotate_left
  · rw [if_neg c10] at H
    have c10b0 : (a0 == 28) = false:=beq_eq_false_iff_ne.mpr c10
    have c10b1 : (a0 != 28) = true:=bne_iff_ne.mpr c10
    have H':=aq H
    clear H
    go_wp2
    go_meet
    case rel => exact ⟨_,((a0 == 29)),eS,H',⟨by have:=HJ2.out;first|omega|exact Nat.le_refl _⟩,dR⟩
  rw [if_pos c10] at H
  have c10b0 : (a0 == 28) = true:=beq_iff_eq.mpr c10
  have c10b1 : (a0 != 28) = false:=bne_eq_false_iff_eq.mpr c10
  clear c10
  have H':=aq H
  clear H
  go_wp2
  go_meet
  case rel => exact ⟨_,((a0 == 28)),eS,H',⟨by have:=HJ2.out;first|omega|exact Nat.le_refl _⟩,dR⟩
 case rest =>
 clear HC6
 (try clear c2);(try clear c2b0);(try clear c2b1);(try clear c5)
 obtain ⟨kq,x9_5,rfl,HA,HJ5,⟨mc5,rfl⟩⟩:=hcut
 cases kq with
 | zero => exact absurd HA.out (by simp [sr07_Shape.j1])
 | succ kj5 =>
 have H:=HA.out
 clear HA
 simp only [sr07_Shape.j1] at H
 by_cases c11 : x9_5 = true
 · subst c11
   have H1 : (some (⟨#[97,98]⟩ : ByteArray)) = some r:=by rw [if_pos rfl] at H;exact H
   clear H
   have H:=H1
   clear H1
   obtain rfl:=Option.some.inj H
   go_wp2
   go_ret
   exact ⟨eS,dR⟩
 replace c11:=Bool.eq_false_iff.mpr c11
 subst c11
 have H1 : (if a0 = 5 then (some (⟨#[97,98,99,114]⟩ : ByteArray)) else (if a0 = 6 then (some (⟨#[116]⟩ : ByteArray)) else (if a0 = 7 then (sr07_Shape.j2 kj5 a0 (a0 == 7)) else (sr07_Shape.j2 kj5 a0 (a0 == 8))))) = some r:=by rw [if_neg (show ¬ (false = true) by decide)] at H;exact H
 clear H
 have H:=H1
 clear H1
 by_cases c12 : a0 = 5
 · rw [if_pos c12] at H
   have c12b0 : (a0 == 5) = true:=beq_iff_eq.mpr c12
   have c12b1 : (a0 != 5) = false:=bne_eq_false_iff_eq.mpr c12
   clear c12
   obtain rfl:=Option.some.inj H
   go_wp2
   go_ret
   exact ⟨eS,dR⟩
 rw [if_neg c12] at H
 have c12b0 : (a0 == 5) = false:=beq_eq_false_iff_ne.mpr c12
 have c12b1 : (a0 != 5) = true:=bne_iff_ne.mpr c12
 by_cases c13 : a0 = 6
 · rw [if_pos c13] at H
   have c13b0 : (a0 == 6) = true:=beq_iff_eq.mpr c13
   have c13b1 : (a0 != 6) = false:=bne_eq_false_iff_eq.mpr c13
   clear c13
   obtain rfl:=Option.some.inj H
   go_wp2
   go_ret
   exact ⟨eS,dR⟩
 rw [if_neg c13] at H
 have c13b0 : (a0 == 6) = false:=beq_eq_false_iff_ne.mpr c13
 have c13b1 : (a0 != 6) = true:=bne_iff_ne.mpr c13
 have HC14:=aq H
 clear H
 go_upto_if 19 with (fail)
 go_cut [19] (fun v19 wc => ∃ (kq : Nat) (x19_13 : Bool),v19 = .bool x19_13 ∧ Aside0 (sr07_Shape.j2 kq a0 x19_13 = some r) ∧ Aside0 (kq ≤ kj5) ∧ Drawn0 w wc)
 case first =>
  have H:=HC14.out
  clear HC14
  by_cases c15 : a0 = 7
  rotate_left
  · rw [if_neg c15] at H
    have c15b0 : (a0 == 7) = false:=beq_eq_false_iff_ne.mpr c15
    have c15b1 : (a0 != 7) = true:=bne_iff_ne.mpr c15
    (first|rw [c15b0]|rw [c15b1]|(simp only [i64_w,i32_w];rw [c15b0])|skip)
    have H':=aq H
    clear H
    go_wp2
    go_meet
    case rel => exact ⟨_,((a0 == 8)),eS,H',⟨by have:=HJ2.out;have:=HJ5.out;first|omega|exact Nat.le_refl _⟩,dR⟩
  rw [if_pos c15] at H
  have c15b0 : (a0 == 7) = true:=beq_iff_eq.mpr c15
  have c15b1 : (a0 != 7) = false:=bne_eq_false_iff_eq.mpr c15
  clear c15
  (first|rw [c15b0]|rw [c15b1]|(simp only [i64_w,i32_w];rw [c15b0])|skip)
  have H':=aq H
  clear H
  go_wp2
  go_meet
  case rel => exact ⟨_,((a0 == 7)),eS,H',⟨by have:=HJ2.out;have:=HJ5.out;first|omega|exact Nat.le_refl _⟩,dR⟩
 case rest =>
 clear HC14
 (try clear c2);(try clear c2b0);(try clear c2b1);(try clear c5);(try clear c11);(try clear c12);(try clear c12b0);(try clear c12b1);(try clear c13);(try clear c13b0);(try clear c13b1)
 obtain ⟨kq,x19_13,rfl,HA,HJ13,⟨mc13,rfl⟩⟩:=hcut
 cases kq with
 | zero => exact absurd HA.out (by simp [sr07_Shape.j2])
 | succ kj13 =>
 have H:=HA.out
 clear HA
 simp only [sr07_Shape.j2] at H
 by_cases c16 : x19_13 = true
 · subst c16
   have H1 : (some (⟨#[98,116]⟩ : ByteArray)) = some r:=by rw [if_pos rfl] at H;exact H
   clear H
   have H:=H1
   clear H1
   obtain rfl:=Option.some.inj H
   go_wp2
   go_ret
   exact ⟨eS,dR⟩
 replace c16:=Bool.eq_false_iff.mpr c16
 subst c16
 have H1 : (if a0 = 9 then (some (⟨#[97,67]⟩ : ByteArray)) else (if a0 = 11 then (sr07_Shape.j3 kj13 a0 (a0 == 11)) else (if a0 = 24 then (sr07_Shape.j3 kj13 a0 (a0 == 24)) else (sr07_Shape.j3 kj13 a0 (a0 == 25))))) = some r:=by rw [if_neg (show ¬ (false = true) by decide)] at H;exact H
 clear H
 have H:=H1
 clear H1
 by_cases c17 : a0 = 9
 · rw [if_pos c17] at H
   have c17b0 : (a0 == 9) = true:=beq_iff_eq.mpr c17
   have c17b1 : (a0 != 9) = false:=bne_eq_false_iff_eq.mpr c17
   clear c17
   obtain rfl:=Option.some.inj H
   go_wp2
   go_ret
   exact ⟨eS,dR⟩
 rw [if_neg c17] at H
 have c17b0 : (a0 == 9) = false:=beq_eq_false_iff_ne.mpr c17
 have c17b1 : (a0 != 9) = true:=bne_iff_ne.mpr c17
 have HC18:=aq H
 clear H
 go_upto_if 24 with (fail)
 go_cut [24] (fun v24 wc => ∃ (kq : Nat) (x24_17 : Bool),v24 = .bool x24_17 ∧ Aside0 (sr07_Shape.j3 kq a0 x24_17 = some r) ∧ Aside0 (kq ≤ kj13) ∧ Drawn0 w wc)
 case first =>
  have H:=HC18.out
  clear HC18
  by_cases c19 : a0 = 11
  · rw [if_pos c19] at H
    have c19b0 : (a0 == 11) = true:=beq_iff_eq.mpr c19
    have c19b1 : (a0 != 11) = false:=bne_eq_false_iff_eq.mpr c19
    clear c19
    (first|rw [c19b0]|rw [c19b1]|(simp only [i64_w,i32_w];rw [c19b0])|skip)
    have H':=aq H
    clear H
    go_wp2
    go_meet
    case rel => exact ⟨_,((a0 == 11)),eS,H',⟨by have:=HJ2.out;have:=HJ5.out;have:=HJ13.out;first|omega|exact Nat.le_refl _⟩,dR⟩
  rw [if_neg c19] at H
  have c19b0 : (a0 == 11) = false:=beq_eq_false_iff_ne.mpr c19
  have c19b1 : (a0 != 11) = true:=bne_iff_ne.mpr c19
  (first|rw [c19b0]|rw [c19b1]|(simp only [i64_w,i32_w];rw [c19b0])|skip)
  by_cases c20 : a0 = 24
  rotate_left
  · rw [if_neg c20] at H
    have c20b0 : (a0 == 24) = false:=beq_eq_false_iff_ne.mpr c20
    have c20b1 : (a0 != 24) = true:=bne_iff_ne.mpr c20
    have H':=aq H
    clear H
    go_wp2
    go_meet
    case rel => exact ⟨_,((a0 == 25)),eS,H',⟨by have:=HJ2.out;have:=HJ5.out;have:=HJ13.out;first|omega|exact Nat.le_refl _⟩,dR⟩
  rw [if_pos c20] at H
  have c20b0 : (a0 == 24) = true:=beq_iff_eq.mpr c20
  have c20b1 : (a0 != 24) = false:=bne_eq_false_iff_eq.mpr c20
  clear c20
  have H':=aq H
  clear H
  go_wp2
  go_meet
  case rel => exact ⟨_,((a0 == 24)),eS,H',⟨by have:=HJ2.out;have:=HJ5.out;have:=HJ13.out;first|omega|exact Nat.le_refl _⟩,dR⟩
 case rest =>
 clear HC18
 (try clear c2);(try clear c2b0);(try clear c2b1);(try clear c5);(try clear c11);(try clear c12);(try clear c12b0);(try clear c12b1);(try clear c13);(try clear c13b0);(try clear c13b1);(try clear c16);(try clear c17);(try clear c17b0);(try clear c17b1)
 obtain ⟨kq,x24_17,rfl,HA,HJ17,⟨mc17,rfl⟩⟩:=hcut
 cases kq with
 | zero => exact absurd HA.out (by simp [sr07_Shape.j3])
 | succ kj17 =>
 have H:=HA.out
 clear HA
 simp only [sr07_Shape.j3] at H
 by_cases c21 : x24_17 = true
 · subst c21
   have H1 : (some (⟨#[97,98,67]⟩ : ByteArray)) = some r:=by rw [if_pos rfl] at H;exact H
   clear H
   have H:=H1
   clear H1
   obtain rfl:=Option.some.inj H
   go_wp2
   go_ret
   exact ⟨eS,dR⟩
 replace c21:=Bool.eq_false_iff.mpr c21
 subst c21
 have H1 : (if a0 = 13 then (sr07_Shape.j4 kj17 a0 (a0 == 13)) else (sr07_Shape.j4 kj17 a0 (a0 == 14))) = some r:=by rw [if_neg (show ¬ (false = true) by decide)] at H;exact H
 clear H
 have H:=H1
 clear H1
 have HC22:=aq H
 clear H
 go_upto_if 28 with (fail)
 go_cut [28] (fun v28 wc => ∃ (kq : Nat) (x28_21 : Bool),v28 = .bool x28_21 ∧ Aside0 (sr07_Shape.j4 kq a0 x28_21 = some r) ∧ Aside0 (kq ≤ kj17) ∧ Drawn0 w wc)
 case first =>
  have H:=HC22.out
  clear HC22
  by_cases c23 : a0 = 13
  rotate_left
  · rw [if_neg c23] at H
    have c23b0 : (a0 == 13) = false:=beq_eq_false_iff_ne.mpr c23
    have c23b1 : (a0 != 13) = true:=bne_iff_ne.mpr c23
    (first|rw [c23b0]|rw [c23b1]|(simp only [i64_w,i32_w];rw [c23b0])|skip)
    have H':=aq H
    clear H
    go_wp2
    go_meet
    case rel => exact ⟨_,((a0 == 14)),eS,H',⟨by have:=HJ2.out;have:=HJ5.out;have:=HJ13.out;have:=HJ17.out;first|omega|exact Nat.le_refl _⟩,dR⟩
  rw [if_pos c23] at H
  have c23b0 : (a0 == 13) = true:=beq_iff_eq.mpr c23
  have c23b1 : (a0 != 13) = false:=bne_eq_false_iff_eq.mpr c23
  clear c23
  (first|rw [c23b0]|rw [c23b1]|(simp only [i64_w,i32_w];rw [c23b0])|skip)
  have H':=aq H
  clear H
  go_wp2
  go_meet
  case rel => exact ⟨_,((a0 == 13)),eS,H',⟨by have:=HJ2.out;have:=HJ5.out;have:=HJ13.out;have:=HJ17.out;first|omega|exact Nat.le_refl _⟩,dR⟩
 case rest =>
 clear HC22
 (try clear c2);(try clear c2b0);(try clear c2b1);(try clear c5);(try clear c11);(try clear c12);(try clear c12b0);(try clear c12b1);(try clear c13);(try clear c13b0);(try clear c13b1);(try clear c16);(try clear c17);(try clear c17b0);(try clear c17b1);(try clear c21)
 obtain ⟨kq,x28_21,rfl,HA,HJ21,⟨mc21,rfl⟩⟩:=hcut
 cases kq with
 | zero => exact absurd HA.out (by simp [sr07_Shape.j4])
 | succ kj21 =>
 have H:=HA.out
 clear HA
 simp only [sr07_Shape.j4] at H
 by_cases c24 : x28_21 = true
 · subst c24
   have H1 : (some (⟨#[97,98,99]⟩ : ByteArray)) = some r:=by rw [if_pos rfl] at H;exact H
   clear H
   have H:=H1
   clear H1
   obtain rfl:=Option.some.inj H
   go_wp2
   go_ret
   exact ⟨eS,dR⟩
 replace c24:=Bool.eq_false_iff.mpr c24
 subst c24
 have H1 : (if a0 = 15 then (some (⟨#[97,98,70]⟩ : ByteArray)) else (if a0 = 16 then (some (⟨#[98,99,70]⟩ : ByteArray)) else (if a0 = 17 then (some (⟨#[97,70]⟩ : ByteArray)) else (if a0 = 18 then (some (⟨#[99,70]⟩ : ByteArray)) else (if a0 = 19 then (sr07_Shape.j5 kj21 a0 (a0 == 19)) else (if a0 = 20 then (sr07_Shape.j5 kj21 a0 (a0 == 20)) else (sr07_Shape.j5 kj21 a0 (a0 == 21)))))))) = some r:=by rw [if_neg (show ¬ (false = true) by decide)] at H;exact H
 clear H
 have H:=H1
 clear H1
 by_cases c25 : a0 = 15
 · rw [if_pos c25] at H
   have c25b0 : (a0 == 15) = true:=beq_iff_eq.mpr c25
   have c25b1 : (a0 != 15) = false:=bne_eq_false_iff_eq.mpr c25
   clear c25
   obtain rfl:=Option.some.inj H
   go_wp2
   go_ret
   exact ⟨eS,dR⟩
 rw [if_neg c25] at H
 have c25b0 : (a0 == 15) = false:=beq_eq_false_iff_ne.mpr c25
 have c25b1 : (a0 != 15) = true:=bne_iff_ne.mpr c25
 by_cases c26 : a0 = 16
 · rw [if_pos c26] at H
   have c26b0 : (a0 == 16) = true:=beq_iff_eq.mpr c26
   have c26b1 : (a0 != 16) = false:=bne_eq_false_iff_eq.mpr c26
   clear c26
   obtain rfl:=Option.some.inj H
   go_wp2
   go_ret
   exact ⟨eS,dR⟩
 rw [if_neg c26] at H
 have c26b0 : (a0 == 16) = false:=beq_eq_false_iff_ne.mpr c26
 have c26b1 : (a0 != 16) = true:=bne_iff_ne.mpr c26
 by_cases c27 : a0 = 17
 · rw [if_pos c27] at H
   have c27b0 : (a0 == 17) = true:=beq_iff_eq.mpr c27
   have c27b1 : (a0 != 17) = false:=bne_eq_false_iff_eq.mpr c27
   clear c27
   obtain rfl:=Option.some.inj H
   go_wp2
   go_ret
   exact ⟨eS,dR⟩
 rw [if_neg c27] at H
 have c27b0 : (a0 == 17) = false:=beq_eq_false_iff_ne.mpr c27
 have c27b1 : (a0 != 17) = true:=bne_iff_ne.mpr c27
 by_cases c28 : a0 = 18
 · rw [if_pos c28] at H
   have c28b0 : (a0 == 18) = true:=beq_iff_eq.mpr c28
   have c28b1 : (a0 != 18) = false:=bne_eq_false_iff_eq.mpr c28
   clear c28
   obtain rfl:=Option.some.inj H
   go_wp2
   go_ret
   exact ⟨eS,dR⟩
 rw [if_neg c28] at H
 have c28b0 : (a0 == 18) = false:=beq_eq_false_iff_ne.mpr c28
 have c28b1 : (a0 != 18) = true:=bne_iff_ne.mpr c28
 have HC29:=aq H
 clear H
 go_upto_if 39 with (fail)
 go_cut [39] (fun v39 wc => ∃ (kq : Nat) (x39_28 : Bool),v39 = .bool x39_28 ∧ Aside0 (sr07_Shape.j5 kq a0 x39_28 = some r) ∧ Aside0 (kq ≤ kj21) ∧ Drawn0 w wc)
 case first =>
  have H:=HC29.out
  clear HC29
  by_cases c30 : a0 = 19
  · rw [if_pos c30] at H
    have c30b0 : (a0 == 19) = true:=beq_iff_eq.mpr c30
    have c30b1 : (a0 != 19) = false:=bne_eq_false_iff_eq.mpr c30
    clear c30
    (first|rw [c30b0]|rw [c30b1]|(simp only [i64_w,i32_w];rw [c30b0])|skip)
    have H':=aq H
    clear H
    go_wp2
    go_meet
    case rel => exact ⟨_,((a0 == 19)),eS,H',⟨by have:=HJ2.out;have:=HJ5.out;have:=HJ13.out;have:=HJ17.out;have:=HJ21.out;first|omega|exact Nat.le_refl _⟩,dR⟩
  rw [if_neg c30] at H
  have c30b0 : (a0 == 19) = false:=beq_eq_false_iff_ne.mpr c30
  have c30b1 : (a0 != 19) = true:=bne_iff_ne.mpr c30
  (first|rw [c30b0]|rw [c30b1]|(simp only [i64_w,i32_w];rw [c30b0])|skip)
  by_cases c31 : a0 = 20
  rotate_left
  · rw [if_neg c31] at H
    have c31b0 : (a0 == 20) = false:=beq_eq_false_iff_ne.mpr c31
    have c31b1 : (a0 != 20) = true:=bne_iff_ne.mpr c31
    have H':=aq H
    clear H
    go_wp2
    go_meet
    case rel => exact ⟨_,((a0 == 21)),eS,H',⟨by have:=HJ2.out;have:=HJ5.out;have:=HJ13.out;have:=HJ17.out;have:=HJ21.out;first|omega|exact Nat.le_refl _⟩,dR⟩
  rw [if_pos c31] at H
  have c31b0 : (a0 == 20) = true:=beq_iff_eq.mpr c31
  have c31b1 : (a0 != 20) = false:=bne_eq_false_iff_eq.mpr c31
  clear c31
  have H':=aq H
  clear H
  go_wp2
  go_meet
  case rel => exact ⟨_,((a0 == 20)),eS,H',⟨by have:=HJ2.out;have:=HJ5.out;have:=HJ13.out;have:=HJ17.out;have:=HJ21.out;first|omega|exact Nat.le_refl _⟩,dR⟩
 case rest =>
 clear HC29
 (try clear c2);(try clear c2b0);(try clear c2b1);(try clear c5);(try clear c11);(try clear c12);(try clear c12b0);(try clear c12b1);(try clear c13);(try clear c13b0);(try clear c13b1);(try clear c16);(try clear c17);(try clear c17b0);(try clear c17b1);(try clear c21);(try clear c24);(try clear c25);(try clear c25b0);(try clear c25b1);(try clear c26);(try clear c26b0);(try clear c26b1);(try clear c27);(try clear c27b0);(try clear c27b1);(try clear c28);(try clear c28b0);(try clear c28b1)
 obtain ⟨kq,x39_28,rfl,HA,HJ28,⟨mc28,rfl⟩⟩:=hcut
 cases kq with
 | zero => exact absurd HA.out (by simp [sr07_Shape.j5])
 | succ kj28 =>
 have H:=HA.out
 clear HA
 simp only [sr07_Shape.j5] at H
 by_cases c32 : x39_28 = true
 · subst c32
   have H1 : (some (⟨#[97,77,118]⟩ : ByteArray)) = some r:=by rw [if_pos rfl] at H;exact H
   clear H
   have H:=H1
   clear H1
   obtain rfl:=Option.some.inj H
   go_wp2
   go_ret
   exact ⟨eS,dR⟩
 replace c32:=Bool.eq_false_iff.mpr c32
 subst c32
 have H1 : (if a0 = 22 then (sr07_Shape.j6 kj28 a0 (a0 == 22)) else (if a0 = 27 then (sr07_Shape.j6 kj28 a0 (a0 == 27)) else (sr07_Shape.j6 kj28 a0 (a0 == 31)))) = some r:=by rw [if_neg (show ¬ (false = true) by decide)] at H;exact H
 clear H
 have H:=H1
 clear H1
 have HC33:=aq H
 clear H
 go_upto_if 43 with (fail)
 go_cut [43] (fun v43 wc => ∃ (kq : Nat) (x43_32 : Bool),v43 = .bool x43_32 ∧ Aside0 (sr07_Shape.j6 kq a0 x43_32 = some r) ∧ Aside0 (kq ≤ kj28) ∧ Drawn0 w wc)
 case first =>
  have H:=HC33.out
  clear HC33
  by_cases c34 : a0 = 22
  · rw [if_pos c34] at H
    have c34b0 : (a0 == 22) = true:=beq_iff_eq.mpr c34
    have c34b1 : (a0 != 22) = false:=bne_eq_false_iff_eq.mpr c34
    clear c34
    (first|rw [c34b0]|rw [c34b1]|(simp only [i64_w,i32_w];rw [c34b0])|skip)
    have H':=aq H
    clear H
    go_wp2
    go_meet
    case rel => exact ⟨_,((a0 == 22)),eS,H',⟨by have:=HJ2.out;have:=HJ5.out;have:=HJ13.out;have:=HJ17.out;have:=HJ21.out;have:=HJ28.out;first|omega|exact Nat.le_refl _⟩,dR⟩
  rw [if_neg c34] at H
  have c34b0 : (a0 == 22) = false:=beq_eq_false_iff_ne.mpr c34
  have c34b1 : (a0 != 22) = true:=bne_iff_ne.mpr c34
  (first|rw [c34b0]|rw [c34b1]|(simp only [i64_w,i32_w];rw [c34b0])|skip)
  by_cases c35 : a0 = 27
  rotate_left
  · rw [if_neg c35] at H
    have c35b0 : (a0 == 27) = false:=beq_eq_false_iff_ne.mpr c35
    have c35b1 : (a0 != 27) = true:=bne_iff_ne.mpr c35
    have H':=aq H
    clear H
    go_wp2
    go_meet
    case rel => exact ⟨_,((a0 == 31)),eS,H',⟨by have:=HJ2.out;have:=HJ5.out;have:=HJ13.out;have:=HJ17.out;have:=HJ21.out;have:=HJ28.out;first|omega|exact Nat.le_refl _⟩,dR⟩
  rw [if_pos c35] at H
  have c35b0 : (a0 == 27) = true:=beq_iff_eq.mpr c35
  have c35b1 : (a0 != 27) = false:=bne_eq_false_iff_eq.mpr c35
  clear c35
  have H':=aq H
  clear H
  go_wp2
  go_meet
  case rel => exact ⟨_,((a0 == 27)),eS,H',⟨by have:=HJ2.out;have:=HJ5.out;have:=HJ13.out;have:=HJ17.out;have:=HJ21.out;have:=HJ28.out;first|omega|exact Nat.le_refl _⟩,dR⟩
 case rest =>
 clear HC33
 (try clear c2);(try clear c2b0);(try clear c2b1);(try clear c5);(try clear c11);(try clear c12);(try clear c12b0);(try clear c12b1);(try clear c13);(try clear c13b0);(try clear c13b1);(try clear c16);(try clear c17);(try clear c17b0);(try clear c17b1);(try clear c21);(try clear c24);(try clear c25);(try clear c25b0);(try clear c25b1);(try clear c26);(try clear c26b0);(try clear c26b1);(try clear c27);(try clear c27b0);(try clear c27b1);(try clear c28);(try clear c28b0);(try clear c28b1);(try clear c32)
 obtain ⟨kq,x43_32,rfl,HA,HJ32,⟨mc32,rfl⟩⟩:=hcut
 cases kq with
 | zero => exact absurd HA.out (by simp [sr07_Shape.j6])
 | succ kj32 =>
 have H:=HA.out
 clear HA
 simp only [sr07_Shape.j6] at H
 by_cases c36 : x43_32 = true
 · subst c36
   have H1 : (some (⟨#[98]⟩ : ByteArray)) = some r:=by rw [if_pos rfl] at H;exact H
   clear H
   have H:=H1
   clear H1
   obtain rfl:=Option.some.inj H
   go_wp2
   go_ret
   exact ⟨eS,dR⟩
 replace c36:=Bool.eq_false_iff.mpr c36
 subst c36
 have H1 : (if a0 = 30 then (some (⟨#[107]⟩ : ByteArray)) else (if a0 = 32 then (some (⟨#[67]⟩ : ByteArray)) else (some (⟨#[]⟩ : ByteArray)))) = some r:=by rw [if_neg (show ¬ (false = true) by decide)] at H;exact H
 clear H
 have H:=H1
 clear H1
 by_cases c37 : a0 = 30
 · rw [if_pos c37] at H
   have c37b0 : (a0 == 30) = true:=beq_iff_eq.mpr c37
   have c37b1 : (a0 != 30) = false:=bne_eq_false_iff_eq.mpr c37
   clear c37
   obtain rfl:=Option.some.inj H
   go_wp2
   go_ret
   exact ⟨eS,dR⟩
 rw [if_neg c37] at H
 have c37b0 : (a0 == 30) = false:=beq_eq_false_iff_ne.mpr c37
 have c37b1 : (a0 != 30) = true:=bne_iff_ne.mpr c37
 by_cases c38 : a0 = 32
 rotate_left
 · rw [if_neg c38] at H
   have c38b0 : (a0 == 32) = false:=beq_eq_false_iff_ne.mpr c38
   have c38b1 : (a0 != 32) = true:=bne_iff_ne.mpr c38
   obtain rfl:=Option.some.inj H
   go_wp2
   go_ret
   exact ⟨eS,dR⟩
 rw [if_pos c38] at H
 have c38b0 : (a0 == 32) = true:=beq_iff_eq.mpr c38
 have c38b1 : (a0 != 32) = false:=bne_eq_false_iff_eq.mpr c38
 clear c38
 obtain rfl:=Option.some.inj H
 go_wp2
 go_ret
 exact ⟨eS,dR⟩
def sr07_IsCall.f (a0 : Int) : Option (Bool) := if a0 = 19 then (some true) else (if a0 = 20 then (some true) else (some (a0 == 21)))
theorem sr07_IsCall.calls (a0 : Int) (r : Bool) (w : World) (h : sr07_IsCall.f a0 = some r) :
    Calls Try.prog 76 #[.int .i64 a0] w fun e w' => e = .returned (.bool r) ∧ Drawn0 w w':=by
 have H : (if a0 = 19 then (some true) else (if a0 = 20 then (some true) else (some (a0 == 21)))) = some r:=h
 clear h
 by_cases c2 : a0 = 19
 · rw [if_pos c2] at H
   have c2b0 : (a0 == 19) = true:=beq_iff_eq.mpr c2
   have c2b1 : (a0 != 19) = false:=bne_eq_false_iff_eq.mpr c2
   clear c2
   obtain rfl:=Option.some.inj H
   go_enter Try.func76,Try.ntmps76
   go_wp2
   go_ret
   exact ⟨eS,dR⟩
 rw [if_neg c2] at H
 have c2b0 : (a0 == 19) = false:=beq_eq_false_iff_ne.mpr c2
 have c2b1 : (a0 != 19) = true:=bne_iff_ne.mpr c2
 by_cases c3 : a0 = 20
 rotate_left
 · rw [if_neg c3] at H
   have c3b0 : (a0 == 20) = false:=beq_eq_false_iff_ne.mpr c3
   have c3b1 : (a0 != 20) = true:=bne_iff_ne.mpr c3
   obtain rfl:=Option.some.inj H
   go_enter Try.func76,Try.ntmps76
   go_wp2
   go_ret
   exact ⟨eS,dR⟩
 rw [if_pos c3] at H
 have c3b0 : (a0 == 20) = true:=beq_iff_eq.mpr c3
 have c3b1 : (a0 != 20) = false:=bne_eq_false_iff_eq.mpr c3
 clear c3
 obtain rfl:=Option.some.inj H
 go_enter Try.func76,Try.ntmps76
 go_wp2
 go_ret
 exact ⟨eS,dR⟩
end Go.Proofs.Ytfplcohjnlbfjaa.Q54
end

section
namespace Go.Proofs.Ytfplcohjnlbfjaa.HandV
open Go.Proofs.Ytfplcohjnlbfjaa.Hand Go.RowKit Go.Proofs.YtfplcohjnlbfjaaW.PrintWords Go.Proofs.YtfplcohjnlbfjaaW.PrintLast Go.Proofs.YtfplcohjnlbfjaaW.PrintMore
theorem row_atV {w : World} {base : Nat} {ok : Nat → Prop} {v : Value} {l : List CV} (h : Kd.R kCV 60 w base ok v l) (i : Nat) (hi : i < l.length) (c : CV) (hx : l[i]? = some c) :
  ∃ g cap,v = .slice (some ⟨g,0,none⟩) l.length cap ∧ w.rangeAt g (i * 38) ((kK c.f0 c.f1 (qL c.f2 (qL c.f3 (sL c.f4 (fL c.f5 (kS c.f6 (mL c.f7 [.slice c.f8.1 c.f8.2.1 c.f8.2.2])))))))):=by
 obtain ⟨inner,ho,hr⟩:=h.2
 obtain ⟨g,cap,rfl⟩:=Joins.ownsRow_form ho (by omega)
 obtain ⟨hn,hc,hC⟩:=Kd.R_reads' h
 obtain ⟨ad,cs,e,hl,hK,hc⟩:=Kd.C_get hC c (i : Int) (by omega) (Int.ofNat_lt.2 hi)
 cases e
 have hxx : l.getD (i : Int).toNat c = c:=by
  rw [List.getD_eq_getElem?_getD,show (i : Int).toNat = i from rfl,hx]
  rfl
 rw [hxx] at hK
 obtain rfl:=kCV_open hK
 refine ⟨g,cap,rfl,fun j u hj => ?_⟩
 have h1:=hc j u hj
 rw [Addr.add_mid,show (i : Int).toNat * kCV.sz + j = i * 38 + j from rfl,Nat.zero_add] at h1
 exact h1
theorem Made.sets {m : S25} {code : List S74} {l0 : List S33} {L : List CV} (h : Made m code l0 code.length L) (i : Nat) (hi : i < code.length) (hs : setsV l0 code[i] = true) : ∃ c ∈ L, c.f1 = (i : Int) ∧ c.f2 = (⟨1, m, code[i].f1, z44, z46⟩ : S50) := by
 obtain ⟨f,rfl,hf⟩:=h.ex
 obtain ⟨_,ha,hb⟩:=hf i hi hi
 obtain ⟨c,hc,e⟩:=hb hs
 exact ⟨c,List.mem_flatMap.2 ⟨i,List.mem_range.2 hi,hc⟩,(ha c hc).1,e⟩
theorem shape6 (e : Nat) (x : Int) (b : Bool) : ∃ s, Q54.sr07_Shape.j6 (e + 1) x b = some s ∧ s.size ≤ 4 := by
 unfold Q54.sr07_Shape.j6
 try dsimp only
 repeat' split
 all_goals first|exact ⟨_,rfl,by decide⟩
theorem shape5 (e : Nat) (x : Int) (b : Bool) : ∃ s, Q54.sr07_Shape.j5 (e + 2) x b = some s ∧ s.size ≤ 4 := by
 unfold Q54.sr07_Shape.j5
 try dsimp only
 repeat' split
 all_goals first|exact ⟨_,rfl,by decide⟩|exact shape6 e _ _
theorem shape4 (e : Nat) (x : Int) (b : Bool) : ∃ s, Q54.sr07_Shape.j4 (e + 3) x b = some s ∧ s.size ≤ 4 := by
 unfold Q54.sr07_Shape.j4
 try dsimp only
 repeat' split
 all_goals first|exact ⟨_,rfl,by decide⟩|exact shape5 e _ _
theorem shape3 (e : Nat) (x : Int) (b : Bool) : ∃ s, Q54.sr07_Shape.j3 (e + 4) x b = some s ∧ s.size ≤ 4 := by
 unfold Q54.sr07_Shape.j3
 try dsimp only
 repeat' split
 all_goals first|exact ⟨_,rfl,by decide⟩|exact shape4 e _ _
theorem shape2 (e : Nat) (x : Int) (b : Bool) : ∃ s, Q54.sr07_Shape.j2 (e + 5) x b = some s ∧ s.size ≤ 4 := by
 unfold Q54.sr07_Shape.j2
 try dsimp only
 repeat' split
 all_goals first|exact ⟨_,rfl,by decide⟩|exact shape3 e _ _
theorem shape1 (e : Nat) (x : Int) (b : Bool) : ∃ s, Q54.sr07_Shape.j1 (e + 6) x b = some s ∧ s.size ≤ 4 := by
 unfold Q54.sr07_Shape.j1
 try dsimp only
 repeat' split
 all_goals first|exact ⟨_,rfl,by decide⟩|exact shape2 e _ _
theorem shape0 (e : Nat) (x : Int) (b : Bool) : ∃ s, Q54.sr07_Shape.j0 (e + 7) x b = some s ∧ s.size ≤ 4 := by
 unfold Q54.sr07_Shape.j0
 try dsimp only
 repeat' split
 all_goals first|exact ⟨_,rfl,by decide⟩|exact shape1 e _ _
theorem shape_ok (e : Nat) (x : Int) : ∃ s, Q54.sr07_Shape.f (e + 7) x = some s ∧ s.size ≤ 4 := by
 unfold Q54.sr07_Shape.f
 repeat' split
 all_goals first|exact ⟨_,rfl,by decide⟩|exact shape0 e _ _
theorem has_ok (s : ByteArray) (c : Int) (hs : s.size ≤ 4) : ∀ d k i, i + d = s.size → d < k → ∃ b, Q54.sr07_Has.l0 k s c (i : Int) = some b
 | _,0,_,_,h => absurd h (Nat.not_lt_zero _)
 | 0,k + 1,i,hi,_ => by
  unfold Q54.sr07_Has.l0
  rw [if_neg (by omega)]
  exact ⟨_,rfl⟩
 | d + 1,k + 1,i,hi,hk => by
  unfold Q54.sr07_Has.l0
  rw [if_pos (by omega),if_pos (by omega)]
  split
  ·
   exact ⟨_,rfl⟩
  ·
   rw [wrap_next i s.size (by omega) (by omega)]
   exact has_ok s c hs d k (i + 1) (by omega) (by omega)
theorem getM_ok {l0 : List S33} (h : ∀ c ∈ l0, okC c) (b0 b1 b2 : ByteArray) : okM (getM l0 b0 b1 b2) := by
 have hz : okM z37:=⟨Nat.zero_le _,fun x hx => by cases hx⟩
 unfold getM knownC
 cases e : l0.find? (isC b0) with
 | none => exact hz
 | some c =>
  cases e2 : c.f6.find? (isM b1 b2) with
  | none => rw [Option.getD_some,e2];exact hz
  | some m => rw [Option.getD_some,e2];exact (h c (List.mem_of_find?_eq_some e)).2.2 m (List.mem_of_find?_eq_some e2)
end Go.Proofs.Ytfplcohjnlbfjaa.HandV
end

section
namespace Go.Proofs.Ytfplcohjnlbfjaa.Hand
open Go.RowKit Go.Proofs.YtfplcohjnlbfjaaW
open PrintWords PrintLast PrintMore
def hasB (s : ByteArray) (c : Int) : Bool := (Q54.sr07_Has.f 7 s c).getD false
def shapeS (op : Int) : ByteArray := (Q54.sr07_Shape.f 7 op).getD ⟨#[]⟩
theorem has_any (s : ByteArray) (c : Int) (hs : s.size ≤ 4) (w : World) : Calls Try.prog 74 #[.string s, .int .u8 c] w fun e w' => e = .returned (.bool (hasB s c)) ∧ Below w.heap.size w w' := by
 obtain ⟨b,hb⟩:=HandV.has_ok s c hs s.size 7 0 (by omega) (by omega)
 have hf : Q54.sr07_Has.f 7 s c = some b:=hb
 have hh : hasB s c = b:=by unfold hasB;rw [hf];rfl
 rw [hh]
 refine (Q54.sr07_Has.calls 7 s c b w hf).mono ?_
 intro e w' h
 first
 | exact h
 | (obtain ⟨h1,n,h2⟩:=h;exact ⟨h1,by rw [h2];exact pw_below_drewN (Below.refl _ _) n⟩)
theorem shape_any (op : Int) (w : World) : Calls Try.prog 75 #[.int .i64 op] w fun e w' => e = .returned (.string (shapeS op)) ∧ Below w.heap.size w w' := by
 obtain ⟨s,hs,_⟩:=HandV.shape_ok 0 op
 have hh : shapeS op = s:=by unfold shapeS;rw [hs];rfl
 rw [hh]
 refine (Q54.sr07_Shape.calls 7 op s w hs).mono ?_
 intro e w' h
 first
 | exact h
 | (obtain ⟨h1,n,h2⟩:=h;exact ⟨h1,by rw [h2];exact pw_below_drewN (Below.refl _ _) n⟩)
theorem shape_size (op : Int) : (shapeS op).size ≤ 4 := by
 obtain ⟨s,hs,h⟩:=HandV.shape_ok 0 op
 have hh : shapeS op = s:=by unfold shapeS;rw [hs];rfl
 rw [hh]
 exact h
theorem within_q (n m : Int) (w : World) (Q : Ending → World → Prop) (HQ : Aside0 (∀ b w', (b = true → 0 ≤ n ∧ n < m) → Below w.heap.size w w' → Q (.returned (.bool b)) w')) : Calls Try.prog 98 #[.int .i64 n, .int .i64 m] w Q := by
 go_enter Try.func98,Try.ntmps98
 by_cases h0 : 0 ≤ n
 ·
  have hd : decide (n ≥ 0) = true:=decide_eq_true (by omega)
  by_cases h1 : n < m
  ·
   have hd1 : decide (n < m) = true:=decide_eq_true h1
   go_wp2_with fail
   exact HQ.out true _ (fun _ => ⟨h0,h1⟩) (Below.refl _ _)
  ·
   have hd1 : decide (n < m) = false:=decide_eq_false h1
   go_wp2_with fail
   exact HQ.out false _ (fun h => absurd h Bool.false_ne_true) (Below.refl _ _)
 ·
  have hd : decide (n ≥ 0) = false:=decide_eq_false (by omega)
  go_wp2_with fail
  exact HQ.out false _ (fun h => absurd h Bool.false_ne_true) (Below.refl _ _)
theorem within_any (n m : Int) (w : World) : Calls Try.prog 98 #[.int .i64 n, .int .i64 m] w fun e w' => ∃ b, e = .returned (.bool b) ∧ (b = true → 0 ≤ n ∧ n < m) ∧ Below w.heap.size w w' := within_q n m w _ ⟨fun b _ h hb => ⟨b, rfl, h, hb⟩⟩
theorem below_q (x y : S37) (A B : Option Addr) (c d : Nat) (w : World) (Q : Ending → World → Prop) (HQ : Aside0 (∀ b w', Below w.heap.size w w' → Q (.returned (.bool b)) w')) : Calls Try.prog 87 #[.agg (zH x A c), .agg (zH y B d)] w Q := by
 have HB:=aq (below_alloc (below_alloc (Below.refl w.heap.size w) (Obj.cells (zH x A c) 37)) (Obj.cells (zH y B d) 37))
 have h0:=blk_alloc (World.alloc_heap_new w (Obj.cells (zH x A c) 37)) (Obj.cells (zH y B d) 37)
 have h1:=World.alloc_heap_new (w.alloc (Obj.cells (zH x A c) 37)) (Obj.cells (zH y B d) 37)
 rw [World.size_alloc] at h1
 obtain ⟨W,hW⟩ : ∃ W,(w.alloc (Obj.cells (zH x A c) 37)).alloc (Obj.cells (zH y B d) 37) = W:=⟨_,rfl⟩
 rw [hW] at HB h0 h1
 have HW:=aq hW
 have p0 : W.cell? ⟨w.heap.size,0,none⟩ = some (.string x.f0):=blk_cell h0 0
 have p1 : W.cell? ⟨w.heap.size,1,none⟩ = some (.string x.f1):=blk_cell h0 1
 have q0 : W.cell? ⟨w.heap.size + 1,0,none⟩ = some (.string y.f0):=blk_cell h1 0
 have q1 : W.cell? ⟨w.heap.size + 1,1,none⟩ = some (.string y.f1):=blk_cell h1 1
 clear h0 h1 hW
 go_enter Try.func87,Try.ntmps87
 go_upto_region 1 with fail
 rw [HW.out]
 go_wp2_with fail
 all_goals exact HQ.out _ _ HB.out
theorem below_any (x y : S37) (A B : Option Addr) (c d : Nat) (w : World) : Calls Try.prog 87 #[.agg (zH x A c), .agg (zH y B d)] w fun e w' => ∃ b, e = .returned (.bool b) ∧ Below w.heap.size w w' := below_q x y A B c d w _ ⟨fun b _ hb => ⟨b, rfl, hb⟩⟩
theorem name_any (s : ByteArray) (hs : s.size ≤ 9223372036854775806) (w : World) : Calls Try.prog 64 #[.string s] w fun e w' => ∃ b, e = .returned (.bool b) ∧ Below w.heap.size w w' := by
 refine (sr04_Name.calls s _ w (if_pos hs)).mono ?_
 rintro e w' ⟨rfl,n,rfl⟩
 exact ⟨_,rfl,pw_below_drewN (Below.refl _ _) n⟩
theorem class_any (s : ByteArray) (hs : s.size ≤ 9223372036854775806) (w : World) : Calls Try.prog 63 #[.string s] w fun e w' => ∃ b, e = .returned (.bool b) ∧ Below w.heap.size w w' := by
 refine (sr04_Class.calls s _ w (if_pos hs)).mono ?_
 rintro e w' ⟨rfl,n,rfl⟩
 exact ⟨_,rfl,pw_below_drewN (Below.refl _ _) n⟩
theorem entry_q (a b c : ByteArray) (ha : a.size ≤ 140737488351232) (hb : b.size ≤ 140737488351232) (w : World) (Q : Ending → World → Prop) (HQ : Aside0 (∀ b w', Below w.heap.size w w' → Q (.returned (.bool b)) w')) : Calls Try.prog 42 #[.agg #[.string a, .string b, .string c]] w Q := by
 have HB:=aq (below_alloc (Below.refl w.heap.size w) (Obj.cells #[.string a,.string b,.string c] 25))
 have h0:=World.alloc_heap_new w (Obj.cells #[.string a,.string b,.string c] 25)
 obtain ⟨W,hW⟩ : ∃ W,w.alloc (Obj.cells #[.string a,.string b,.string c] 25) = W:=⟨_,rfl⟩
 rw [hW] at HB h0
 have HW:=aq hW
 have HZ:=aq h0
 have HS:=aq (And.intro ha hb)
 clear h0 hW ha hb
 go_enter Try.func42,Try.ntmps42
 go_upto_region 1 with fail
 rw [HW.out]
 obtain ⟨p0,p1,p2⟩:=cells3 HZ.out
 go_wp2_with (first
  | (go_at_call 63;refine (class_any a (by have:=HS.out.1;omega) _).mono ?_;rintro e w1 ⟨b1,rfl,hb1⟩;replace HB:=aq (below_step HB.out hb1);replace HZ:=aq (blk_below HZ.out hb1);clear hb1 p0 p1 p2;obtain ⟨p0,p1,p2⟩:=cells3 HZ.out)
  | (go_at_call 64;refine (name_any b (by have:=HS.out.2;omega) _).mono ?_;rintro e w1 ⟨b1,rfl,hb1⟩;replace HB:=aq (below_step HB.out hb1);replace HZ:=aq (blk_below HZ.out hb1);clear hb1 p0 p1 p2;obtain ⟨p0,p1,p2⟩:=cells3 HZ.out)
  | fail)
 all_goals exact HQ.out _ _ HB.out
theorem cells9 {w : World} {g : Nat} {t : TypeId} {u0 u1 u2 u3 u4 u5 u6 u7 u8 : Value} (h : w.heap[g]? = some (Obj.cells #[u0, u1, u2, u3, u4, u5, u6, u7, u8] t (0, 0))) : w.cell? ⟨g, 0, none⟩ = some u0 ∧ w.cell? ⟨g, 1, none⟩ = some u1 ∧ w.cell? ⟨g, 2, none⟩ = some u2 ∧ w.cell? ⟨g, 3, none⟩ = some u3 ∧ w.cell? ⟨g, 4, none⟩ = some u4 ∧ w.cell? ⟨g, 5, none⟩ = some u5 ∧ w.cell? ⟨g, 6, none⟩ = some u6 ∧ w.cell? ⟨g, 7, none⟩ = some u7 ∧ w.cell? ⟨g, 8, none⟩ = some u8 := ⟨blk_cell h 0, blk_cell h 1, blk_cell h 2, blk_cell h 3, blk_cell h 4, blk_cell h 5, blk_cell h 6, blk_cell h 7, blk_cell h 8⟩
theorem wpList_cut2 {P : Program} {ops : Array Oper} {Q : Exit → Act → World → Prop} {a : Act} {w : World} {l : List Oper} (n : Nat) (T : (Act → World → Prop) → Prop)
  (h1 : ∀ L,Aside0 (T (wpList P ops Q L)) → wpList P ops Q (l.take n ++ L) a w) (h2 : T (wpList P ops Q (l.drop n))) : wpList P ops Q l a w:=by
 have h:=h1 (l.drop n) ⟨h2⟩
 rw [List.take_append_drop] at h
 exact h
theorem named_q (x : S74) (A8 : Option Addr) (c8 : Nat) (s : ByteArray) (hs : s.size ≤ 4) (h5 : x.f5.size ≤ 140737488351232) (h6 : x.f6.size ≤ 140737488351232) (w : World) (Q : Ending → World → Prop) (HQ : Aside0 (∀ b w', Below w.heap.size w w' → Q (.returned (.bool b)) w')) :
  Calls Try.prog 97 #[.agg #[.int .i64 x.f0,.int .i64 x.f1,.int .i64 x.f2,.int .i64 x.f3,.int .i64 x.f4,.string x.f5,.string x.f6,.string x.f7,.slice A8 x.f8.length c8],.string s] w Q:=by
 have HB:=aq (below_alloc (Below.refl w.heap.size w) (Obj.cells #[.int .i64 x.f0,.int .i64 x.f1,.int .i64 x.f2,.int .i64 x.f3,.int .i64 x.f4,.string x.f5,.string x.f6,.string x.f7,.slice A8 x.f8.length c8] 74))
 have h0:=World.alloc_heap_new w (Obj.cells #[.int .i64 x.f0,.int .i64 x.f1,.int .i64 x.f2,.int .i64 x.f3,.int .i64 x.f4,.string x.f5,.string x.f6,.string x.f7,.slice A8 x.f8.length c8] 74)
 obtain ⟨W,hW⟩ : ∃ W,w.alloc (Obj.cells #[.int .i64 x.f0,.int .i64 x.f1,.int .i64 x.f2,.int .i64 x.f3,.int .i64 x.f4,.string x.f5,.string x.f6,.string x.f7,.slice A8 x.f8.length c8] 74) = W:=⟨_,rfl⟩
 rw [hW] at HB h0
 have HW:=aq hW
 have HZ:=aq h0
 have HS:=aq (And.intro hs (And.intro h5 h6))
 clear h0 hW hs h5 h6
 go_enter Try.func97,Try.ntmps97
 go_upto_region 1 with fail
 rw [HW.out]
 obtain ⟨p0,p1,p2,p3,p4,p5,p6,p7,p8⟩:=cells9 HZ.out
 go_cut [23] (fun v23 wc => ∃ b,v23 = .bool b ∧ Aside0 (Below w.heap.size w wc) ∧ Aside0 (wc.heap[w.heap.size]? = some (Obj.cells #[.int .i64 x.f0,.int .i64 x.f1,.int .i64 x.f2,.int .i64 x.f3,.int .i64 x.f4,.string x.f5,.string x.f6,.string x.f7,.slice A8 x.f8.length c8] 74 (0,0))))
 case first =>
  go_wp2_with (first
   | (go_at_call 74;refine (has_any s _ HS.out.1 _).mono ?_;rintro e w1 ⟨rfl,hb1⟩;replace HB:=aq (below_step (by first|exact HB.out|exact below_alloc HB.out _) hb1);replace HZ:=aq (blk_below (by first|exact HZ.out|exact blk_alloc HZ.out _) hb1);clear hb1 p0 p1 p2 p3 p4 p5 p6 p7 p8;obtain ⟨p0,p1,p2,p3,p4,p5,p6,p7,p8⟩:=cells9 HZ.out;generalize hasB s _ = bq;cases bq)
   | (go_at_call 63;refine (class_any x.f5 (by have:=HS.out.2.1;omega) _).mono ?_;rintro e w1 ⟨b1,rfl,hb1⟩;replace HB:=aq (below_step (by first|exact HB.out|exact below_alloc HB.out _) hb1);replace HZ:=aq (blk_below (by first|exact HZ.out|exact blk_alloc HZ.out _) hb1);clear hb1 p0 p1 p2 p3 p4 p5 p6 p7 p8;obtain ⟨p0,p1,p2,p3,p4,p5,p6,p7,p8⟩:=cells9 HZ.out)
   | (go_at_call 64;refine (name_any x.f6 (by have:=HS.out.2.2;omega) _).mono ?_;rintro e w1 ⟨b1,rfl,hb1⟩;replace HB:=aq (below_step (by first|exact HB.out|exact below_alloc HB.out _) hb1);replace HZ:=aq (blk_below (by first|exact HZ.out|exact blk_alloc HZ.out _) hb1);clear hb1 p0 p1 p2 p3 p4 p5 p6 p7 p8;obtain ⟨p0,p1,p2,p3,p4,p5,p6,p7,p8⟩:=cells9 HZ.out)
   | (go_at_call 48;refine (sr06_Split.calls x.f7 _ _ _ _ _ rfl).mono ?_;rintro e w1 ⟨v1,rfl,_,hb1⟩;replace HB:=aq (below_step (by first|exact HB.out|exact below_alloc HB.out _) hb1);replace HZ:=aq (blk_below (by first|exact HZ.out|exact blk_alloc HZ.out _) hb1);clear hb1 p0 p1 p2 p3 p4 p5 p6 p7 p8;obtain ⟨p0,p1,p2,p3,p4,p5,p6,p7,p8⟩:=cells9 HZ.out)
   | fail)
  all_goals (go_meet;case rel => exact ⟨_,rfl,HB,HZ⟩)
 case rest =>
  obtain ⟨b,rfl,HB,HZ⟩:=hcut
  cases b with
  | true =>
   go_wp2_with fail
   exact HQ.out _ _ HB.out
  | false =>
   go_upto_region 3 with fail
   obtain ⟨p0,p1,p2,p3,p4,p5,p6,p7,p8⟩:=cells9 HZ.out
   go_cut [35] (fun v35 wc => ∃ b,v35 = .bool b ∧ Aside0 (Below w.heap.size w wc) ∧ Aside0 (wc.heap[w.heap.size]? = some (Obj.cells #[.int .i64 x.f0,.int .i64 x.f1,.int .i64 x.f2,.int .i64 x.f3,.int .i64 x.f4,.string x.f5,.string x.f6,.string x.f7,.slice A8 x.f8.length c8] 74 (0,0))))
   case first =>
    go_wp2_with (first
     | (go_at_call 74;refine (has_any s _ HS.out.1 _).mono ?_;rintro e w1 ⟨rfl,hb1⟩;replace HB:=aq (below_step (by first|exact HB.out|exact below_alloc HB.out _) hb1);replace HZ:=aq (blk_below (by first|exact HZ.out|exact blk_alloc HZ.out _) hb1);clear hb1 p0 p1 p2 p3 p4 p5 p6 p7 p8;obtain ⟨p0,p1,p2,p3,p4,p5,p6,p7,p8⟩:=cells9 HZ.out;generalize hasB s _ = bq;cases bq)
     | (go_at_call 63;refine (class_any x.f5 (by have:=HS.out.2.1;omega) _).mono ?_;rintro e w1 ⟨b1,rfl,hb1⟩;replace HB:=aq (below_step (by first|exact HB.out|exact below_alloc HB.out _) hb1);replace HZ:=aq (blk_below (by first|exact HZ.out|exact blk_alloc HZ.out _) hb1);clear hb1 p0 p1 p2 p3 p4 p5 p6 p7 p8;obtain ⟨p0,p1,p2,p3,p4,p5,p6,p7,p8⟩:=cells9 HZ.out)
     | (go_at_call 64;refine (name_any x.f6 (by have:=HS.out.2.2;omega) _).mono ?_;rintro e w1 ⟨b1,rfl,hb1⟩;replace HB:=aq (below_step (by first|exact HB.out|exact below_alloc HB.out _) hb1);replace HZ:=aq (blk_below (by first|exact HZ.out|exact blk_alloc HZ.out _) hb1);clear hb1 p0 p1 p2 p3 p4 p5 p6 p7 p8;obtain ⟨p0,p1,p2,p3,p4,p5,p6,p7,p8⟩:=cells9 HZ.out)
     | (go_at_call 48;refine (sr06_Split.calls x.f7 _ _ _ _ _ rfl).mono ?_;rintro e w1 ⟨v1,rfl,_,hb1⟩;replace HB:=aq (below_step (by first|exact HB.out|exact below_alloc HB.out _) hb1);replace HZ:=aq (blk_below (by first|exact HZ.out|exact blk_alloc HZ.out _) hb1);clear hb1 p0 p1 p2 p3 p4 p5 p6 p7 p8;obtain ⟨p0,p1,p2,p3,p4,p5,p6,p7,p8⟩:=cells9 HZ.out)
     | fail)
    all_goals (go_meet;case rel => exact ⟨_,rfl,HB,HZ⟩)
   case rest =>
    obtain ⟨b,rfl,HB,HZ⟩:=hcut
    cases b with
    | true =>
     go_wp2_with fail
     exact HQ.out _ _ HB.out
    | false =>
     obtain ⟨p0,p1,p2,p3,p4,p5,p6,p7,p8⟩:=cells9 HZ.out
     go_wp2_with (first
      | (go_at_call 74;refine (has_any s _ HS.out.1 _).mono ?_;rintro e w1 ⟨rfl,hb1⟩;replace HB:=aq (below_step (by first|exact HB.out|exact below_alloc HB.out _) hb1);replace HZ:=aq (blk_below (by first|exact HZ.out|exact blk_alloc HZ.out _) hb1);clear hb1 p0 p1 p2 p3 p4 p5 p6 p7 p8;obtain ⟨p0,p1,p2,p3,p4,p5,p6,p7,p8⟩:=cells9 HZ.out;generalize hasB s _ = bq;cases bq)
      | (go_at_call 63;refine (class_any x.f5 (by have:=HS.out.2.1;omega) _).mono ?_;rintro e w1 ⟨b1,rfl,hb1⟩;replace HB:=aq (below_step (by first|exact HB.out|exact below_alloc HB.out _) hb1);replace HZ:=aq (blk_below (by first|exact HZ.out|exact blk_alloc HZ.out _) hb1);clear hb1 p0 p1 p2 p3 p4 p5 p6 p7 p8;obtain ⟨p0,p1,p2,p3,p4,p5,p6,p7,p8⟩:=cells9 HZ.out)
      | (go_at_call 64;refine (name_any x.f6 (by have:=HS.out.2.2;omega) _).mono ?_;rintro e w1 ⟨b1,rfl,hb1⟩;replace HB:=aq (below_step (by first|exact HB.out|exact below_alloc HB.out _) hb1);replace HZ:=aq (blk_below (by first|exact HZ.out|exact blk_alloc HZ.out _) hb1);clear hb1 p0 p1 p2 p3 p4 p5 p6 p7 p8;obtain ⟨p0,p1,p2,p3,p4,p5,p6,p7,p8⟩:=cells9 HZ.out)
      | (go_at_call 48;refine (sr06_Split.calls x.f7 _ _ _ _ _ rfl).mono ?_;rintro e w1 ⟨v1,rfl,_,hb1⟩;replace HB:=aq (below_step (by first|exact HB.out|exact below_alloc HB.out _) hb1);replace HZ:=aq (blk_below (by first|exact HZ.out|exact blk_alloc HZ.out _) hb1);clear hb1 p0 p1 p2 p3 p4 p5 p6 p7 p8;obtain ⟨p0,p1,p2,p3,p4,p5,p6,p7,p8⟩:=cells9 HZ.out)
      | fail)
     all_goals exact HQ.out _ _ (by first|exact HB.out|exact below_alloc HB.out _)
theorem named_any (x : S74) (A8 : Option Addr) (c8 : Nat) (s : ByteArray) (hs : s.size ≤ 4) (h5 : x.f5.size ≤ 140737488351232) (h6 : x.f6.size ≤ 140737488351232) (w : World) : Calls Try.prog 97 #[.agg #[.int .i64 x.f0, .int .i64 x.f1, .int .i64 x.f2, .int .i64 x.f3, .int .i64 x.f4, .string x.f5, .string x.f6, .string x.f7, .slice A8 x.f8.length c8], .string s] w fun e w' => ∃ b, e = .returned (.bool b) ∧ Below w.heap.size w w' := named_q x A8 c8 s hs h5 h6 w _ ⟨fun b _ hb => ⟨b, rfl, hb⟩⟩
end Go.Proofs.Ytfplcohjnlbfjaa.Hand
end

section
namespace Go.Proofs.Ytfplcohjnlbfjaa.Hand
open Go.RowKit Go.Proofs.YtfplcohjnlbfjaaW
open PrintWords PrintLast PrintMore
theorem empty_q (x : S74) (A8 : Option Addr) (c8 : Nat) (s : ByteArray) (hs : s.size ≤ 4) (h5 : x.f5.size ≤ 140737488351232) (h6 : x.f6.size ≤ 140737488351232) (w : World) (Q : Ending → World → Prop) (HQ : Aside0 (∀ b w', Below w.heap.size w w' → Q (.returned (.bool b)) w')) :
  Calls Try.prog 96 #[.agg #[.int .i64 x.f0,.int .i64 x.f1,.int .i64 x.f2,.int .i64 x.f3,.int .i64 x.f4,.string x.f5,.string x.f6,.string x.f7,.slice A8 x.f8.length c8],.string s] w Q:=by
 have HB:=aq (below_alloc (Below.refl w.heap.size w) (Obj.cells #[.int .i64 x.f0,.int .i64 x.f1,.int .i64 x.f2,.int .i64 x.f3,.int .i64 x.f4,.string x.f5,.string x.f6,.string x.f7,.slice A8 x.f8.length c8] 74))
 have h0:=World.alloc_heap_new w (Obj.cells #[.int .i64 x.f0,.int .i64 x.f1,.int .i64 x.f2,.int .i64 x.f3,.int .i64 x.f4,.string x.f5,.string x.f6,.string x.f7,.slice A8 x.f8.length c8] 74)
 obtain ⟨W,hW⟩ : ∃ W,w.alloc (Obj.cells #[.int .i64 x.f0,.int .i64 x.f1,.int .i64 x.f2,.int .i64 x.f3,.int .i64 x.f4,.string x.f5,.string x.f6,.string x.f7,.slice A8 x.f8.length c8] 74) = W:=⟨_,rfl⟩
 rw [hW] at HB h0
 have HW:=aq hW
 have HZ:=aq h0
 have HS:=aq (And.intro hs (And.intro h5 h6))
 clear h0 hW hs h5 h6
 go_enter Try.func96,Try.ntmps96
 go_upto_region 1 with fail
 rw [HW.out]
 obtain ⟨p0,p1,p2,p3,p4,p5,p6,p7,p8⟩:=cells9 HZ.out
 go_cut [5] (fun v5 wc => ∃ b,v5 = .bool b ∧ Aside0 (Below w.heap.size w wc) ∧ Aside0 (wc.heap[w.heap.size]? = some (Obj.cells #[.int .i64 x.f0,.int .i64 x.f1,.int .i64 x.f2,.int .i64 x.f3,.int .i64 x.f4,.string x.f5,.string x.f6,.string x.f7,.slice A8 x.f8.length c8] 74 (0,0))))
 case first =>
  go_wp2_with (first
   | (go_at_call 74;refine (has_any s _ HS.out.1 _).mono ?_;rintro e w1 ⟨rfl,hb1⟩;replace HB:=aq (below_step (by first|exact HB.out|exact below_alloc HB.out _) hb1);replace HZ:=aq (blk_below (by first|exact HZ.out|exact blk_alloc HZ.out _) hb1);clear hb1 p0 p1 p2 p3 p4 p5 p6 p7 p8;obtain ⟨p0,p1,p2,p3,p4,p5,p6,p7,p8⟩:=cells9 HZ.out;generalize hasB s _ = bq;cases bq)
   | fail)
  all_goals (go_meet;case rel => exact ⟨_,rfl,HB,HZ⟩)
 case rest =>
  obtain ⟨bc,rfl,HB,HZ⟩:=hcut
  go_upto_region 2 with fail
  obtain ⟨p0,p1,p2,p3,p4,p5,p6,p7,p8⟩:=cells9 HZ.out
  go_cut [6] (fun v6 wc => ∃ b,v6 = .bool b ∧ Aside0 (Below w.heap.size w wc) ∧ Aside0 (wc.heap[w.heap.size]? = some (Obj.cells #[.int .i64 x.f0,.int .i64 x.f1,.int .i64 x.f2,.int .i64 x.f3,.int .i64 x.f4,.string x.f5,.string x.f6,.string x.f7,.slice A8 x.f8.length c8] 74 (0,0))))
  case first =>
   go_wp2_with (first
    | (go_at_call 74;refine (has_any s _ HS.out.1 _).mono ?_;rintro e w1 ⟨rfl,hb1⟩;replace HB:=aq (below_step (by first|exact HB.out|exact below_alloc HB.out _) hb1);replace HZ:=aq (blk_below (by first|exact HZ.out|exact blk_alloc HZ.out _) hb1);clear hb1 p0 p1 p2 p3 p4 p5 p6 p7 p8;obtain ⟨p0,p1,p2,p3,p4,p5,p6,p7,p8⟩:=cells9 HZ.out;generalize hasB s _ = bq;cases bq)
    | fail)
   all_goals (go_meet;case rel => exact ⟨_,rfl,HB,HZ⟩)
  case rest =>
   obtain ⟨bn,rfl,HB,HZ⟩:=hcut
   go_upto_region 3 with fail
   obtain ⟨p0,p1,p2,p3,p4,p5,p6,p7,p8⟩:=cells9 HZ.out
   go_cut [7] (fun v7 wc => ∃ b,v7 = .bool b ∧ Aside0 (Below w.heap.size w wc) ∧ Aside0 (wc.heap[w.heap.size]? = some (Obj.cells #[.int .i64 x.f0,.int .i64 x.f1,.int .i64 x.f2,.int .i64 x.f3,.int .i64 x.f4,.string x.f5,.string x.f6,.string x.f7,.slice A8 x.f8.length c8] 74 (0,0))))
   case first =>
    go_wp2_with (first
     | (go_at_call 74;refine (has_any s _ HS.out.1 _).mono ?_;rintro e w1 ⟨rfl,hb1⟩;replace HB:=aq (below_step (by first|exact HB.out|exact below_alloc HB.out _) hb1);replace HZ:=aq (blk_below (by first|exact HZ.out|exact blk_alloc HZ.out _) hb1);clear hb1 p0 p1 p2 p3 p4 p5 p6 p7 p8;obtain ⟨p0,p1,p2,p3,p4,p5,p6,p7,p8⟩:=cells9 HZ.out;generalize hasB s _ = bq;cases bq)
     | fail)
    all_goals (go_meet;case rel => exact ⟨_,rfl,HB,HZ⟩)
   case rest =>
    obtain ⟨bk,rfl,HB,HZ⟩:=hcut
    go_upto_region 4 with fail
    obtain ⟨p0,p1,p2,p3,p4,p5,p6,p7,p8⟩:=cells9 HZ.out
    refine wp_region_lit ?_
    simp only [List.append_eq,List.cons_append,List.nil_append]
    refine wpList_cut2 16 (fun G => ∀ (u0 u3 u8 u9 u10 u11 u12 u13 u14 u15 u16 u17 u18 u19 u20 u21 u22 u23 u24 u25 u26 u27 u28 u29 u30 u31 u32 u33 u34 u35 u36 u37 u38 u39 u40 u41 u42 u43 u44 u45 u46 u47 u48 u50 u51 u52 u53 u54 u55 u56 u57 u58 u59 u60 u61 u62 u63 u64 u65 u66 u67 u68 u69 u70 u71 u72 u73 u74 u75 u76 u77 u78 u79 u80 u81 u82 u83 u84 u85 u86 u87 u88 u89 u90 u91 u92 u93 u94 u95 u96 u97 u98 u99 u100 u101 : Value) (b : Bool) (w' : World),Aside0 (Below w.heap.size w w') → Aside0 (w'.heap[w.heap.size]? = some (Obj.cells #[.int .i64 x.f0,.int .i64 x.f1,.int .i64 x.f2,.int .i64 x.f3,.int .i64 x.f4,.string x.f5,.string x.f6,.string x.f7,.slice A8 x.f8.length c8] 74 (0,0))) → G ⟨(List.toArray ((u0) :: (.string s) :: (.pointer (some ⟨w.heap.size,0,none⟩)) :: (u3) :: (.bool false) :: (.bool bc) :: (.bool bn) :: (.bool bk) :: (u8) :: (u9) :: (u10) :: (u11) :: (u12) :: (u13) :: (u14) :: (u15) :: (u16) :: (u17) :: (u18) :: (u19) :: (u20) :: (u21) :: (u22) :: (u23) :: (u24) :: (u25) :: (u26) :: (u27) :: (u28) :: (u29) :: (u30) :: (u31) :: (u32) :: (u33) :: (u34) :: (u35) :: (u36) :: (u37) :: (u38) :: (u39) :: (u40) :: (u41) :: (u42) :: (u43) :: (u44) :: (u45) :: (u46) :: (u47) :: (u48) :: (.bool b) :: (u50) :: (u51) :: (u52) :: (u53) :: (u54) :: (u55) :: (u56) :: (u57) :: (u58) :: (u59) :: (u60) :: (u61) :: (u62) :: (u63) :: (u64) :: (u65) :: (u66) :: (u67) :: (u68) :: (u69) :: (u70) :: (u71) :: [u72,u73,u74,u75,u76,u77,u78,u79,u80,u81,u82,u83,u84,u85,u86,u87,u88,u89,u90,u91,u92,u93,u94,u95,u96,u97,u98,u99,u100,u101])),[]⟩ w') ?_ ?_
    ·
     intro L hL
     simp only [List.append_eq,List.cons_append,List.nil_append,List.take_succ_cons,List.take_zero]
     go_wp2_with (first
      | (go_at_call 74;refine (has_any s _ HS.out.1 _).mono ?_;rintro e w1 ⟨rfl,hb1⟩;replace HB:=aq (below_step (by first|exact HB.out|exact below_alloc HB.out _) hb1);replace HZ:=aq (blk_below (by first|exact HZ.out|exact blk_alloc HZ.out _) hb1);clear hb1 p0 p1 p2 p3 p4 p5 p6 p7 p8;obtain ⟨p0,p1,p2,p3,p4,p5,p6,p7,p8⟩:=cells9 HZ.out;generalize hasB s _ = bq;cases bq)
      | fail)
     all_goals exact hL.out _ _ _ _ _ _ _ _ _ _ _ _ _ _ _ _ _ _ _ _ _ _ _ _ _ _ _ _ _ _ _ _ _ _ _ _ _ _ _ _ _ _ _ _ _ _ _ _ _ _ _ _ _ _ _ _ _ _ _ _ _ _ _ _ _ _ _ _ _ _ _ _ _ _ _ _ _ _ _ _ _ _ _ _ _ _ _ _ _ _ _ _ _ _ _ _ _ HB HZ
    intro u0 u3 u8 u9 u10 u11 u12 u13 u14 u15 u16 u17 u18 u19 u20 u21 u22 u23 u24 u25 u26 u27 u28 u29 u30 u31 u32 u33 u34 u35 u36 u37 u38 u39 u40 u41 u42 u43 u44 u45 u46 u47 u48 u50 u51 u52 u53 u54 u55 u56 u57 u58 u59 u60 u61 u62 u63 u64 u65 u66 u67 u68 u69 u70 u71 u72 u73 u74 u75 u76 u77 u78 u79 u80 u81 u82 u83 u84 u85 u86 u87 u88 u89 u90 u91 u92 u93 u94 u95 u96 u97 u98 u99 u100 u101 b w' HB HZ
    simp only [List.append_eq,List.cons_append,List.nil_append,List.drop_succ_cons,List.drop_zero]
    obtain ⟨p0,p1,p2,p3,p4,p5,p6,p7,p8⟩:=cells9 HZ.out
    refine wpList_cut2 9 (fun G => ∀ (u0 u3 u8 u9 u10 u11 u12 u13 u14 u15 u16 u17 u18 u19 u20 u21 u22 u23 u24 u25 u26 u27 u28 u29 u30 u31 u32 u33 u34 u35 u36 u37 u38 u39 u40 u41 u42 u43 u44 u45 u46 u47 u48 u49 u50 u51 u52 u53 u54 u55 u56 u57 u59 u60 u61 u62 u63 u64 u65 u66 u67 u68 u69 u70 u71 u72 u73 u74 u75 u76 u77 u78 u79 u80 u81 u82 u83 u84 u85 u86 u87 u88 u89 u90 u91 u92 u93 u94 u95 u96 u97 u98 u99 u100 u101 : Value) (b : Bool) (w' : World),Aside0 (Below w.heap.size w w') → Aside0 (w'.heap[w.heap.size]? = some (Obj.cells #[.int .i64 x.f0,.int .i64 x.f1,.int .i64 x.f2,.int .i64 x.f3,.int .i64 x.f4,.string x.f5,.string x.f6,.string x.f7,.slice A8 x.f8.length c8] 74 (0,0))) → G ⟨(List.toArray ((u0) :: (.string s) :: (.pointer (some ⟨w.heap.size,0,none⟩)) :: (u3) :: (.bool false) :: (.bool bc) :: (.bool bn) :: (.bool bk) :: (u8) :: (u9) :: (u10) :: (u11) :: (u12) :: (u13) :: (u14) :: (u15) :: (u16) :: (u17) :: (u18) :: (u19) :: (u20) :: (u21) :: (u22) :: (u23) :: (u24) :: (u25) :: (u26) :: (u27) :: (u28) :: (u29) :: (u30) :: (u31) :: (u32) :: (u33) :: (u34) :: (u35) :: (u36) :: (u37) :: (u38) :: (u39) :: (u40) :: (u41) :: (u42) :: (u43) :: (u44) :: (u45) :: (u46) :: (u47) :: (u48) :: (u49) :: (u50) :: (u51) :: (u52) :: (u53) :: (u54) :: (u55) :: (u56) :: (u57) :: (.bool b) :: (u59) :: (u60) :: (u61) :: (u62) :: (u63) :: (u64) :: (u65) :: (u66) :: (u67) :: (u68) :: (u69) :: (u70) :: (u71) :: [u72,u73,u74,u75,u76,u77,u78,u79,u80,u81,u82,u83,u84,u85,u86,u87,u88,u89,u90,u91,u92,u93,u94,u95,u96,u97,u98,u99,u100,u101])),[]⟩ w') ?_ ?_
    ·
     intro L hL
     simp only [List.append_eq,List.cons_append,List.nil_append,List.take_succ_cons,List.take_zero]
     go_wp2_with (first
      | (go_at_call 74;refine (has_any s _ HS.out.1 _).mono ?_;rintro e w1 ⟨rfl,hb1⟩;replace HB:=aq (below_step (by first|exact HB.out|exact below_alloc HB.out _) hb1);replace HZ:=aq (blk_below (by first|exact HZ.out|exact blk_alloc HZ.out _) hb1);clear hb1 p0 p1 p2 p3 p4 p5 p6 p7 p8;obtain ⟨p0,p1,p2,p3,p4,p5,p6,p7,p8⟩:=cells9 HZ.out;generalize hasB s _ = bq;cases bq)
      | fail)
     all_goals exact hL.out _ _ _ _ _ _ _ _ _ _ _ _ _ _ _ _ _ _ _ _ _ _ _ _ _ _ _ _ _ _ _ _ _ _ _ _ _ _ _ _ _ _ _ _ _ _ _ _ _ _ _ _ _ _ _ _ _ _ _ _ _ _ _ _ _ _ _ _ _ _ _ _ _ _ _ _ _ _ _ _ _ _ _ _ _ _ _ _ _ _ _ _ _ _ _ _ _ HB HZ
    intro u0 u3 u8 u9 u10 u11 u12 u13 u14 u15 u16 u17 u18 u19 u20 u21 u22 u23 u24 u25 u26 u27 u28 u29 u30 u31 u32 u33 u34 u35 u36 u37 u38 u39 u40 u41 u42 u43 u44 u45 u46 u47 u48 u49 u50 u51 u52 u53 u54 u55 u56 u57 u59 u60 u61 u62 u63 u64 u65 u66 u67 u68 u69 u70 u71 u72 u73 u74 u75 u76 u77 u78 u79 u80 u81 u82 u83 u84 u85 u86 u87 u88 u89 u90 u91 u92 u93 u94 u95 u96 u97 u98 u99 u100 u101 b w' HB HZ
    simp only [List.append_eq,List.cons_append,List.nil_append,List.drop_succ_cons,List.drop_zero]
    obtain ⟨p0,p1,p2,p3,p4,p5,p6,p7,p8⟩:=cells9 HZ.out
    refine wpList_cut2 8 (fun G => ∀ (u0 u3 u7 u8 u9 u10 u11 u12 u13 u14 u15 u16 u17 u18 u19 u20 u21 u22 u23 u24 u25 u26 u27 u28 u29 u30 u31 u32 u33 u34 u35 u36 u37 u38 u39 u40 u41 u42 u43 u44 u45 u46 u47 u48 u49 u50 u51 u52 u53 u54 u55 u56 u57 u58 u59 u60 u61 u62 u63 u64 u65 u67 u68 u69 u70 u71 u72 u73 u74 u75 u76 u77 u78 u79 u80 u81 u82 u83 u84 u85 u86 u87 u88 u89 u90 u91 u92 u93 u94 u95 u96 u97 u98 u99 u100 u101 : Value) (b : Bool) (w' : World),Aside0 (Below w.heap.size w w') → Aside0 (w'.heap[w.heap.size]? = some (Obj.cells #[.int .i64 x.f0,.int .i64 x.f1,.int .i64 x.f2,.int .i64 x.f3,.int .i64 x.f4,.string x.f5,.string x.f6,.string x.f7,.slice A8 x.f8.length c8] 74 (0,0))) → G ⟨(List.toArray ((u0) :: (.string s) :: (.pointer (some ⟨w.heap.size,0,none⟩)) :: (u3) :: (.bool false) :: (.bool bc) :: (.bool bn) :: (u7) :: (u8) :: (u9) :: (u10) :: (u11) :: (u12) :: (u13) :: (u14) :: (u15) :: (u16) :: (u17) :: (u18) :: (u19) :: (u20) :: (u21) :: (u22) :: (u23) :: (u24) :: (u25) :: (u26) :: (u27) :: (u28) :: (u29) :: (u30) :: (u31) :: (u32) :: (u33) :: (u34) :: (u35) :: (u36) :: (u37) :: (u38) :: (u39) :: (u40) :: (u41) :: (u42) :: (u43) :: (u44) :: (u45) :: (u46) :: (u47) :: (u48) :: (u49) :: (u50) :: (u51) :: (u52) :: (u53) :: (u54) :: (u55) :: (u56) :: (u57) :: (u58) :: (u59) :: (u60) :: (u61) :: (u62) :: (u63) :: (u64) :: (u65) :: (.bool b) :: (u67) :: (u68) :: (u69) :: (u70) :: (u71) :: [u72,u73,u74,u75,u76,u77,u78,u79,u80,u81,u82,u83,u84,u85,u86,u87,u88,u89,u90,u91,u92,u93,u94,u95,u96,u97,u98,u99,u100,u101])),[]⟩ w') ?_ ?_
    ·
     intro L hL
     simp only [List.append_eq,List.cons_append,List.nil_append,List.take_succ_cons,List.take_zero]
     go_wp2_with (first
      | (go_at_call 74;refine (has_any s _ HS.out.1 _).mono ?_;rintro e w1 ⟨rfl,hb1⟩;replace HB:=aq (below_step (by first|exact HB.out|exact below_alloc HB.out _) hb1);replace HZ:=aq (blk_below (by first|exact HZ.out|exact blk_alloc HZ.out _) hb1);clear hb1 p0 p1 p2 p3 p4 p5 p6 p7 p8;obtain ⟨p0,p1,p2,p3,p4,p5,p6,p7,p8⟩:=cells9 HZ.out;generalize hasB s _ = bq;cases bq)
      | fail)
     all_goals exact hL.out _ _ _ _ _ _ _ _ _ _ _ _ _ _ _ _ _ _ _ _ _ _ _ _ _ _ _ _ _ _ _ _ _ _ _ _ _ _ _ _ _ _ _ _ _ _ _ _ _ _ _ _ _ _ _ _ _ _ _ _ _ _ _ _ _ _ _ _ _ _ _ _ _ _ _ _ _ _ _ _ _ _ _ _ _ _ _ _ _ _ _ _ _ _ _ _ _ _ HB HZ
    intro u0 u3 u7 u8 u9 u10 u11 u12 u13 u14 u15 u16 u17 u18 u19 u20 u21 u22 u23 u24 u25 u26 u27 u28 u29 u30 u31 u32 u33 u34 u35 u36 u37 u38 u39 u40 u41 u42 u43 u44 u45 u46 u47 u48 u49 u50 u51 u52 u53 u54 u55 u56 u57 u58 u59 u60 u61 u62 u63 u64 u65 u67 u68 u69 u70 u71 u72 u73 u74 u75 u76 u77 u78 u79 u80 u81 u82 u83 u84 u85 u86 u87 u88 u89 u90 u91 u92 u93 u94 u95 u96 u97 u98 u99 u100 u101 b w' HB HZ
    simp only [List.append_eq,List.cons_append,List.nil_append,List.drop_succ_cons,List.drop_zero]
    obtain ⟨p0,p1,p2,p3,p4,p5,p6,p7,p8⟩:=cells9 HZ.out
    refine wpList_cut2 8 (fun G => ∀ (u0 u3 u7 u5 u8 u9 u10 u11 u12 u13 u14 u15 u16 u17 u18 u19 u20 u21 u22 u23 u24 u25 u26 u27 u28 u29 u30 u31 u32 u33 u34 u35 u36 u37 u38 u39 u40 u41 u42 u43 u44 u45 u46 u47 u48 u49 u50 u51 u52 u53 u54 u55 u56 u57 u58 u59 u60 u61 u62 u63 u64 u65 u66 u67 u68 u69 u70 u71 u72 u73 u75 u76 u77 u78 u79 u80 u81 u82 u83 u84 u85 u86 u87 u88 u89 u90 u91 u92 u93 u94 u95 u96 u97 u98 u99 u100 u101 : Value) (b : Bool) (w' : World),Aside0 (Below w.heap.size w w') → Aside0 (w'.heap[w.heap.size]? = some (Obj.cells #[.int .i64 x.f0,.int .i64 x.f1,.int .i64 x.f2,.int .i64 x.f3,.int .i64 x.f4,.string x.f5,.string x.f6,.string x.f7,.slice A8 x.f8.length c8] 74 (0,0))) → G ⟨(List.toArray ((u0) :: (.string s) :: (.pointer (some ⟨w.heap.size,0,none⟩)) :: (u3) :: (.bool false) :: (u5) :: (.bool bn) :: (u7) :: (u8) :: (u9) :: (u10) :: (u11) :: (u12) :: (u13) :: (u14) :: (u15) :: (u16) :: (u17) :: (u18) :: (u19) :: (u20) :: (u21) :: (u22) :: (u23) :: (u24) :: (u25) :: (u26) :: (u27) :: (u28) :: (u29) :: (u30) :: (u31) :: (u32) :: (u33) :: (u34) :: (u35) :: (u36) :: (u37) :: (u38) :: (u39) :: (u40) :: (u41) :: (u42) :: (u43) :: (u44) :: (u45) :: (u46) :: (u47) :: (u48) :: (u49) :: (u50) :: (u51) :: (u52) :: (u53) :: (u54) :: (u55) :: (u56) :: (u57) :: (u58) :: (u59) :: (u60) :: (u61) :: (u62) :: (u63) :: (u64) :: (u65) :: (u66) :: (u67) :: (u68) :: (u69) :: (u70) :: (u71) :: [u72,u73,.bool b,u75,u76,u77,u78,u79,u80,u81,u82,u83,u84,u85,u86,u87,u88,u89,u90,u91,u92,u93,u94,u95,u96,u97,u98,u99,u100,u101])),[]⟩ w') ?_ ?_
    ·
     intro L hL
     simp only [List.append_eq,List.cons_append,List.nil_append,List.take_succ_cons,List.take_zero]
     go_wp2_with (first
      | (go_at_call 74;refine (has_any s _ HS.out.1 _).mono ?_;rintro e w1 ⟨rfl,hb1⟩;replace HB:=aq (below_step (by first|exact HB.out|exact below_alloc HB.out _) hb1);replace HZ:=aq (blk_below (by first|exact HZ.out|exact blk_alloc HZ.out _) hb1);clear hb1 p0 p1 p2 p3 p4 p5 p6 p7 p8;obtain ⟨p0,p1,p2,p3,p4,p5,p6,p7,p8⟩:=cells9 HZ.out;generalize hasB s _ = bq;cases bq)
      | fail)
     all_goals exact hL.out _ _ _ _ _ _ _ _ _ _ _ _ _ _ _ _ _ _ _ _ _ _ _ _ _ _ _ _ _ _ _ _ _ _ _ _ _ _ _ _ _ _ _ _ _ _ _ _ _ _ _ _ _ _ _ _ _ _ _ _ _ _ _ _ _ _ _ _ _ _ _ _ _ _ _ _ _ _ _ _ _ _ _ _ _ _ _ _ _ _ _ _ _ _ _ _ _ _ _ HB HZ
    intro u0 u3 u7 u5 u8 u9 u10 u11 u12 u13 u14 u15 u16 u17 u18 u19 u20 u21 u22 u23 u24 u25 u26 u27 u28 u29 u30 u31 u32 u33 u34 u35 u36 u37 u38 u39 u40 u41 u42 u43 u44 u45 u46 u47 u48 u49 u50 u51 u52 u53 u54 u55 u56 u57 u58 u59 u60 u61 u62 u63 u64 u65 u66 u67 u68 u69 u70 u71 u72 u73 u75 u76 u77 u78 u79 u80 u81 u82 u83 u84 u85 u86 u87 u88 u89 u90 u91 u92 u93 u94 u95 u96 u97 u98 u99 u100 u101 b w' HB HZ
    simp only [List.append_eq,List.cons_append,List.nil_append,List.drop_succ_cons,List.drop_zero]
    obtain ⟨p0,p1,p2,p3,p4,p5,p6,p7,p8⟩:=cells9 HZ.out
    refine wpList_cut2 8 (fun G => ∀ (u0 u3 u7 u5 u6 u8 u9 u10 u11 u12 u13 u14 u15 u16 u17 u18 u19 u20 u21 u22 u23 u24 u25 u26 u27 u28 u29 u30 u31 u32 u33 u34 u35 u36 u37 u38 u39 u40 u41 u42 u43 u44 u45 u46 u47 u48 u49 u50 u51 u52 u53 u54 u55 u56 u57 u58 u59 u60 u61 u62 u63 u64 u65 u66 u67 u68 u69 u70 u71 u72 u73 u74 u75 u76 u77 u78 u79 u80 u81 u83 u84 u85 u86 u87 u88 u89 u90 u91 u92 u93 u94 u95 u96 u97 u98 u99 u100 u101 : Value) (b : Bool) (w' : World),Aside0 (Below w.heap.size w w') → Aside0 (w'.heap[w.heap.size]? = some (Obj.cells #[.int .i64 x.f0,.int .i64 x.f1,.int .i64 x.f2,.int .i64 x.f3,.int .i64 x.f4,.string x.f5,.string x.f6,.string x.f7,.slice A8 x.f8.length c8] 74 (0,0))) → G ⟨(List.toArray ((u0) :: (.string s) :: (.pointer (some ⟨w.heap.size,0,none⟩)) :: (u3) :: (.bool false) :: (u5) :: (u6) :: (u7) :: (u8) :: (u9) :: (u10) :: (u11) :: (u12) :: (u13) :: (u14) :: (u15) :: (u16) :: (u17) :: (u18) :: (u19) :: (u20) :: (u21) :: (u22) :: (u23) :: (u24) :: (u25) :: (u26) :: (u27) :: (u28) :: (u29) :: (u30) :: (u31) :: (u32) :: (u33) :: (u34) :: (u35) :: (u36) :: (u37) :: (u38) :: (u39) :: (u40) :: (u41) :: (u42) :: (u43) :: (u44) :: (u45) :: (u46) :: (u47) :: (u48) :: (u49) :: (u50) :: (u51) :: (u52) :: (u53) :: (u54) :: (u55) :: (u56) :: (u57) :: (u58) :: (u59) :: (u60) :: (u61) :: (u62) :: (u63) :: (u64) :: (u65) :: (u66) :: (u67) :: (u68) :: (u69) :: (u70) :: (u71) :: [u72,u73,u74,u75,u76,u77,u78,u79,u80,u81,.bool b,u83,u84,u85,u86,u87,u88,u89,u90,u91,u92,u93,u94,u95,u96,u97,u98,u99,u100,u101])),[]⟩ w') ?_ ?_
    ·
     intro L hL
     simp only [List.append_eq,List.cons_append,List.nil_append,List.take_succ_cons,List.take_zero]
     go_wp2_with (first
      | (go_at_call 74;refine (has_any s _ HS.out.1 _).mono ?_;rintro e w1 ⟨rfl,hb1⟩;replace HB:=aq (below_step (by first|exact HB.out|exact below_alloc HB.out _) hb1);replace HZ:=aq (blk_below (by first|exact HZ.out|exact blk_alloc HZ.out _) hb1);clear hb1 p0 p1 p2 p3 p4 p5 p6 p7 p8;obtain ⟨p0,p1,p2,p3,p4,p5,p6,p7,p8⟩:=cells9 HZ.out;generalize hasB s _ = bq;cases bq)
      | fail)
     all_goals exact hL.out _ _ _ _ _ _ _ _ _ _ _ _ _ _ _ _ _ _ _ _ _ _ _ _ _ _ _ _ _ _ _ _ _ _ _ _ _ _ _ _ _ _ _ _ _ _ _ _ _ _ _ _ _ _ _ _ _ _ _ _ _ _ _ _ _ _ _ _ _ _ _ _ _ _ _ _ _ _ _ _ _ _ _ _ _ _ _ _ _ _ _ _ _ _ _ _ _ _ _ _ HB HZ
    intro u0 u3 u7 u5 u6 u8 u9 u10 u11 u12 u13 u14 u15 u16 u17 u18 u19 u20 u21 u22 u23 u24 u25 u26 u27 u28 u29 u30 u31 u32 u33 u34 u35 u36 u37 u38 u39 u40 u41 u42 u43 u44 u45 u46 u47 u48 u49 u50 u51 u52 u53 u54 u55 u56 u57 u58 u59 u60 u61 u62 u63 u64 u65 u66 u67 u68 u69 u70 u71 u72 u73 u74 u75 u76 u77 u78 u79 u80 u81 u83 u84 u85 u86 u87 u88 u89 u90 u91 u92 u93 u94 u95 u96 u97 u98 u99 u100 u101 b w' HB HZ
    simp only [List.append_eq,List.cons_append,List.nil_append,List.drop_succ_cons,List.drop_zero]
    obtain ⟨p0,p1,p2,p3,p4,p5,p6,p7,p8⟩:=cells9 HZ.out
    refine wpList_cut2 9 (fun G => ∀ (u0 u3 u7 u5 u6 u8 u9 u10 u11 u12 u13 u14 u15 u16 u17 u18 u19 u20 u21 u22 u23 u24 u25 u26 u27 u28 u29 u30 u31 u32 u33 u34 u35 u36 u37 u38 u39 u40 u41 u42 u43 u44 u45 u46 u47 u48 u49 u50 u51 u52 u53 u54 u55 u56 u57 u58 u59 u60 u61 u62 u63 u64 u65 u66 u67 u68 u69 u70 u71 u72 u73 u74 u75 u76 u77 u78 u79 u80 u81 u82 u83 u84 u85 u86 u87 u88 u89 u90 u92 u93 u94 u95 u96 u97 u98 u99 u100 u101 : Value) (b : Bool) (w' : World),Aside0 (Below w.heap.size w w') → Aside0 (w'.heap[w.heap.size]? = some (Obj.cells #[.int .i64 x.f0,.int .i64 x.f1,.int .i64 x.f2,.int .i64 x.f3,.int .i64 x.f4,.string x.f5,.string x.f6,.string x.f7,.slice A8 x.f8.length c8] 74 (0,0))) → G ⟨(List.toArray ((u0) :: (.string s) :: (.pointer (some ⟨w.heap.size,0,none⟩)) :: (u3) :: (.bool false) :: (u5) :: (u6) :: (u7) :: (u8) :: (u9) :: (u10) :: (u11) :: (u12) :: (u13) :: (u14) :: (u15) :: (u16) :: (u17) :: (u18) :: (u19) :: (u20) :: (u21) :: (u22) :: (u23) :: (u24) :: (u25) :: (u26) :: (u27) :: (u28) :: (u29) :: (u30) :: (u31) :: (u32) :: (u33) :: (u34) :: (u35) :: (u36) :: (u37) :: (u38) :: (u39) :: (u40) :: (u41) :: (u42) :: (u43) :: (u44) :: (u45) :: (u46) :: (u47) :: (u48) :: (u49) :: (u50) :: (u51) :: (u52) :: (u53) :: (u54) :: (u55) :: (u56) :: (u57) :: (u58) :: (u59) :: (u60) :: (u61) :: (u62) :: (u63) :: (u64) :: (u65) :: (u66) :: (u67) :: (u68) :: (u69) :: (u70) :: (u71) :: [u72,u73,u74,u75,u76,u77,u78,u79,u80,u81,u82,u83,u84,u85,u86,u87,u88,u89,u90,.bool b,u92,u93,u94,u95,u96,u97,u98,u99,u100,u101])),[]⟩ w') ?_ ?_
    ·
     intro L hL
     simp only [List.append_eq,List.cons_append,List.nil_append,List.take_succ_cons,List.take_zero]
     go_wp2_with (first
      | (go_at_call 74;refine (has_any s _ HS.out.1 _).mono ?_;rintro e w1 ⟨rfl,hb1⟩;replace HB:=aq (below_step (by first|exact HB.out|exact below_alloc HB.out _) hb1);replace HZ:=aq (blk_below (by first|exact HZ.out|exact blk_alloc HZ.out _) hb1);clear hb1 p0 p1 p2 p3 p4 p5 p6 p7 p8;obtain ⟨p0,p1,p2,p3,p4,p5,p6,p7,p8⟩:=cells9 HZ.out;generalize hasB s _ = bq;cases bq)
      | fail)
     all_goals exact hL.out _ _ _ _ _ _ _ _ _ _ _ _ _ _ _ _ _ _ _ _ _ _ _ _ _ _ _ _ _ _ _ _ _ _ _ _ _ _ _ _ _ _ _ _ _ _ _ _ _ _ _ _ _ _ _ _ _ _ _ _ _ _ _ _ _ _ _ _ _ _ _ _ _ _ _ _ _ _ _ _ _ _ _ _ _ _ _ _ _ _ _ _ _ _ _ _ _ _ _ _ HB HZ
    intro u0 u3 u7 u5 u6 u8 u9 u10 u11 u12 u13 u14 u15 u16 u17 u18 u19 u20 u21 u22 u23 u24 u25 u26 u27 u28 u29 u30 u31 u32 u33 u34 u35 u36 u37 u38 u39 u40 u41 u42 u43 u44 u45 u46 u47 u48 u49 u50 u51 u52 u53 u54 u55 u56 u57 u58 u59 u60 u61 u62 u63 u64 u65 u66 u67 u68 u69 u70 u71 u72 u73 u74 u75 u76 u77 u78 u79 u80 u81 u82 u83 u84 u85 u86 u87 u88 u89 u90 u92 u93 u94 u95 u96 u97 u98 u99 u100 u101 b w' HB HZ
    simp only [List.append_eq,List.cons_append,List.nil_append,List.drop_succ_cons,List.drop_zero]
    obtain ⟨p0,p1,p2,p3,p4,p5,p6,p7,p8⟩:=cells9 HZ.out
    go_wp2_with (first
      | (go_at_call 74;refine (has_any s _ HS.out.1 _).mono ?_;rintro e w1 ⟨rfl,hb1⟩;replace HB:=aq (below_step (by first|exact HB.out|exact below_alloc HB.out _) hb1);replace HZ:=aq (blk_below (by first|exact HZ.out|exact blk_alloc HZ.out _) hb1);clear hb1 p0 p1 p2 p3 p4 p5 p6 p7 p8;obtain ⟨p0,p1,p2,p3,p4,p5,p6,p7,p8⟩:=cells9 HZ.out;generalize hasB s _ = bq;cases bq)
      | fail)
    all_goals exact HQ.out _ _ HB.out
theorem empty_any (x : S74) (A8 : Option Addr) (c8 : Nat) (s : ByteArray) (hs : s.size ≤ 4) (h5 : x.f5.size ≤ 140737488351232) (h6 : x.f6.size ≤ 140737488351232) (w : World) : Calls Try.prog 96 #[.agg #[.int .i64 x.f0, .int .i64 x.f1, .int .i64 x.f2, .int .i64 x.f3, .int .i64 x.f4, .string x.f5, .string x.f6, .string x.f7, .slice A8 x.f8.length c8], .string s] w fun e w' => ∃ b, e = .returned (.bool b) ∧ Below w.heap.size w w' := empty_q x A8 c8 s hs h5 h6 w _ ⟨fun b _ hb => ⟨b, rfl, hb⟩⟩
end Go.Proofs.Ytfplcohjnlbfjaa.Hand
end

section
namespace Go.Proofs.Ytfplcohjnlbfjaa.Hand
open Go.RowKit Go.Proofs.YtfplcohjnlbfjaaW
open PrintWords PrintLast PrintMore
theorem wrap_nextQ (i n : Nat) (h : i < n) (hn : n ≤ 140737488351232) : wrap64 ((i : Int) + 1) = ((i + 1 : Nat) : Int) := by
 unfold wrap64
 omega
theorem split_any (s : ByteArray) (w : World) : Calls Try.prog 48 #[.string s] w fun e w' => ∃ A n c t1 t2 er, e = .returned (.tuple #[.slice A n c, .agg #[.int .i64 t1, .string t2], .int .i64 er]) ∧ Below w.heap.size w w' := by
 refine (sr06_Split.calls s _ _ _ _ w rfl).mono ?_
 rintro e w' ⟨v,rfl,hR,hb⟩
 obtain ⟨A,c,hv⟩:=Kd.R_slice hR
 subst hv
 exact ⟨A,_,c,_,_,_,rfl,hb⟩
theorem iscall_any (op : Int) (w : World) : Calls Try.prog 76 #[.int .i64 op] w fun e w' => ∃ b, e = .returned (.bool b) ∧ Below w.heap.size w w' := by
 obtain ⟨r,hr⟩ : ∃ r,Q54.sr07_IsCall.f op = some r:=by
  unfold Q54.sr07_IsCall.f
  split
  ·
   exact ⟨_,rfl⟩
  ·
   split
   ·
    exact ⟨_,rfl⟩
   ·
    exact ⟨_,rfl⟩
 refine (Q54.sr07_IsCall.calls op r w hr).mono ?_
 intro e w' h
 first
 | exact ⟨r,h⟩
 | (obtain ⟨h1,n,h2⟩:=h;exact ⟨r,h1,by rw [h2];exact pw_below_drewN (Below.refl _ _) n⟩)
def inR (n m : Int) : Prop := 0 ≤ n ∧ n < m
def FitsOK (x : S74) (regs : Int) : Prop := (hasB (shapeS x.f0) 97 = true → inR x.f1 regs) ∧ (hasB (shapeS x.f0) 98 = true → inR x.f2 regs) ∧ (hasB (shapeS x.f0) 99 = true → inR x.f3 regs) ∧ ∀ a ∈ x.f8, inR a regs
theorem ok_at {p : Int → Prop} {xs : List Int} {i : Nat} (h : ∀ y ∈ xs.take i, p y) (hi : i < xs.length) (hp : p (xs.getD i 0)) : ∀ y ∈ xs.take (i + 1), p y := by
 rw [List.getD_eq_getElem?_getD,List.getElem?_eq_getElem hi] at hp
 exact ok_next h hi rfl hp
theorem fits_q (x : S74) (A8 : Option Addr) (c8 : Nat) (regs code : Int) (h5 : x.f5.size ≤ 140737488351232) (h6 : x.f6.size ≤ 140737488351232) (hl : x.f8.length ≤ 140737488351232) (w : World) (hC : Kd.C (Kd.int .i64) w A8 x.f8.length x.f8) (Q : Ending → World → Prop) (HQ : Aside0 (∀ e w', (e = 0 → FitsOK x regs) → Below w.heap.size w w' → Q (.returned (.int .i64 e)) w')) :
  Calls Try.prog 86 #[.agg #[.int .i64 x.f0,.int .i64 x.f1,.int .i64 x.f2,.int .i64 x.f3,.int .i64 x.f4,.string x.f5,.string x.f6,.string x.f7,.slice A8 x.f8.length c8],.int .i64 regs,.int .i64 code] w Q:=by
 have HB:=aq (below_alloc (Below.refl w.heap.size w) (Obj.cells #[.int .i64 x.f0,.int .i64 x.f1,.int .i64 x.f2,.int .i64 x.f3,.int .i64 x.f4,.string x.f5,.string x.f6,.string x.f7,.slice A8 x.f8.length c8] 74))
 have h0:=World.alloc_heap_new w (Obj.cells #[.int .i64 x.f0,.int .i64 x.f1,.int .i64 x.f2,.int .i64 x.f3,.int .i64 x.f4,.string x.f5,.string x.f6,.string x.f7,.slice A8 x.f8.length c8] 74)
 obtain ⟨W,hW⟩ : ∃ W,w.alloc (Obj.cells #[.int .i64 x.f0,.int .i64 x.f1,.int .i64 x.f2,.int .i64 x.f3,.int .i64 x.f4,.string x.f5,.string x.f6,.string x.f7,.slice A8 x.f8.length c8] 74) = W:=⟨_,rfl⟩
 rw [hW] at HB h0
 have HW:=aq hW
 have HZ:=aq h0
 have HC:=aq hC
 have HL:=aq hl
 obtain ⟨s,hs⟩ : ∃ s,shapeS x.f0 = s:=⟨_,rfl⟩
 have HSS:=aq hs
 have HS : Aside0 (s.size ≤ 4 ∧ x.f5.size ≤ 140737488351232 ∧ x.f6.size ≤ 140737488351232):=⟨by rw [← hs];exact shape_size _,h5,h6⟩
 clear h0 hW h5 h6 hC hl hs
 go_enter Try.func86,Try.ntmps86
 go_upto_region 1 with fail
 rw [HW.out]
 obtain ⟨p0,p1,p2,p3,p4,p5,p6,p7,p8⟩:=cells9 HZ.out
 go_upto_region 2 with (first
  | (go_at_call 75;refine (shape_any x.f0 _).mono ?_;rintro e w1 ⟨rfl,hb1⟩;replace HB:=aq (below_step (by first|exact HB.out|exact below_alloc HB.out _) hb1);replace HZ:=aq (blk_below (by first|exact HZ.out|exact blk_alloc HZ.out _) hb1);clear hb1 p0 p1 p2 p3 p4 p5 p6 p7 p8;obtain ⟨p0,p1,p2,p3,p4,p5,p6,p7,p8⟩:=cells9 HZ.out)
  | fail)
 rw [HSS.out]
 go_cut [36] (fun v36 wc => ∃ b,v36 = .bool b ∧ Aside0 (Below w.heap.size w wc) ∧ Aside0 (wc.heap[w.heap.size]? = some (Obj.cells #[.int .i64 x.f0,.int .i64 x.f1,.int .i64 x.f2,.int .i64 x.f3,.int .i64 x.f4,.string x.f5,.string x.f6,.string x.f7,.slice A8 x.f8.length c8] 74 (0,0))))
 case first =>
  go_wp2_with (first
   | (go_at_call 96;refine (empty_any x A8 c8 s HS.out.1 HS.out.2.1 HS.out.2.2 _).mono ?_;rintro e w1 ⟨b1,rfl,hb1⟩;replace HB:=aq (below_step (by first|exact HB.out|exact below_alloc HB.out _) hb1);replace HZ:=aq (blk_below (by first|exact HZ.out|exact blk_alloc HZ.out _) hb1);clear hb1 p0 p1 p2 p3 p4 p5 p6 p7 p8;obtain ⟨p0,p1,p2,p3,p4,p5,p6,p7,p8⟩:=cells9 HZ.out)
   | (go_at_call 97;refine (named_any x A8 c8 s HS.out.1 HS.out.2.1 HS.out.2.2 _).mono ?_;rintro e w1 ⟨b1,rfl,hb1⟩;replace HB:=aq (below_step (by first|exact HB.out|exact below_alloc HB.out _) hb1);replace HZ:=aq (blk_below (by first|exact HZ.out|exact blk_alloc HZ.out _) hb1);clear hb1 p0 p1 p2 p3 p4 p5 p6 p7 p8;obtain ⟨p0,p1,p2,p3,p4,p5,p6,p7,p8⟩:=cells9 HZ.out)
   | fail)
  all_goals (go_meet;case rel => exact ⟨_,rfl,HB,HZ⟩)
 case rest =>
  obtain ⟨b,rfl,HB,HZ⟩:=hcut
  cases b with
  | true =>
   go_wp2_with fail
   exact HQ.out 1 _ (fun h => absurd h (by decide)) HB.out
  | false =>
   go_upto_region 5 with fail
   obtain ⟨p0,p1,p2,p3,p4,p5,p6,p7,p8⟩:=cells9 HZ.out
   go_upto_if 39 with (first
    | (go_at_call 76;refine (iscall_any x.f0 _).mono ?_;rintro e w1 ⟨b1,rfl,hb1⟩;replace HB:=aq (below_step (by first|exact HB.out|exact below_alloc HB.out _) hb1);replace HZ:=aq (blk_below (by first|exact HZ.out|exact blk_alloc HZ.out _) hb1);clear hb1 p0 p1 p2 p3 p4 p5 p6 p7 p8;obtain ⟨p0,p1,p2,p3,p4,p5,p6,p7,p8⟩:=cells9 HZ.out)
    | fail)
   go_cut [8] (fun v8 wc => ∃ b,v8 = .bool b ∧ Aside0 (Below w.heap.size w wc) ∧ Aside0 (wc.heap[w.heap.size]? = some (Obj.cells #[.int .i64 x.f0,.int .i64 x.f1,.int .i64 x.f2,.int .i64 x.f3,.int .i64 x.f4,.string x.f5,.string x.f6,.string x.f7,.slice A8 x.f8.length c8] 74 (0,0))))
   case first =>
    cases b1 with
    | false =>
     go_wp2_with fail
     go_meet
     case rel => exact ⟨_,rfl,HB,HZ⟩
    | true =>
     go_upto_region 7 with (first
      | (go_at_call 48;refine (split_any x.f7 _).mono ?_;rintro e w1 ⟨As,ns,cs,t1,t2,er,rfl,hb1⟩;replace HB:=aq (below_step (by first|exact HB.out|exact below_alloc HB.out _) hb1);replace HZ:=aq (blk_below (by first|exact HZ.out|exact blk_alloc HZ.out _) hb1);clear hb1 p0 p1 p2 p3 p4 p5 p6 p7 p8;obtain ⟨p0,p1,p2,p3,p4,p5,p6,p7,p8⟩:=cells9 HZ.out)
      | fail)
     have HBN:=aq (below_alloc HB.out (Obj.cells #[.int .i64 t1,.string t2] 97))
     have HZN:=aq (blk_alloc HZ.out (Obj.cells #[.int .i64 t1,.string t2] 97))
     have z0 : (w1.alloc (Obj.cells #[.int .i64 t1,.string t2] 97)).cell? ⟨w1.heap.size,0,none⟩ = some (.int .i64 t1):=blk_cell (World.alloc_heap_new w1 (Obj.cells #[.int .i64 t1,.string t2] 97)) 0
     obtain ⟨q,hq⟩ : ∃ q,q = w1.heap.size:=⟨_,rfl⟩
     rw [← hq] at z0 ⊢
     clear p0 p1 p2 p3 p4 p5 p6 p7 p8
     generalize w1.alloc (Obj.cells #[.int .i64 t1,.string t2] 97) = W2 at HBN HZN z0 ⊢
     clear hq
     replace HB:=HBN
     replace HZ:=HZN
     obtain ⟨p0,p1,p2,p3,p4,p5,p6,p7,p8⟩:=cells9 HZ.out
     go_wp2_with fail
     all_goals first|exact HQ.out 9 _ (fun h => absurd h (by decide)) HB.out|(go_meet;case rel => exact ⟨_,rfl,HB,HZ⟩)
   case rest =>
    obtain ⟨vd,rfl,HB,HZ⟩:=hcut
    go_upto_region 13 with fail
    obtain ⟨p0,p1,p2,p3,p4,p5,p6,p7,p8⟩:=cells9 HZ.out
    go_cut [8,100] (fun v8 v100 wc => ∃ b,v100 = .bool b ∧ Aside0 (b = false → (hasB s 97 = true → inR x.f1 regs) ∧ (hasB s 98 = true → inR x.f2 regs) ∧ (hasB s 99 = true → inR x.f3 regs)) ∧ Aside0 (Below w.heap.size w wc) ∧ Aside0 (wc.heap[w.heap.size]? = some (Obj.cells #[.int .i64 x.f0,.int .i64 x.f1,.int .i64 x.f2,.int .i64 x.f3,.int .i64 x.f4,.string x.f5,.string x.f6,.string x.f7,.slice A8 x.f8.length c8] 74 (0,0))))
    case first =>
     go_wp2_with (first
      | (go_at_call 74;refine (has_any s _ HS.out.1 _).mono ?_;rintro e w1 ⟨rfl,hb1⟩;replace HB:=aq (below_step (by first|exact HB.out|exact below_alloc HB.out _) hb1);replace HZ:=aq (blk_below (by first|exact HZ.out|exact blk_alloc HZ.out _) hb1);clear hb1 p0 p1 p2 p3 p4 p5 p6 p7 p8;obtain ⟨p0,p1,p2,p3,p4,p5,p6,p7,p8⟩:=cells9 HZ.out;generalize hq : hasB s _ = bq;cases bq;all_goals (have HH_:=aq hq;clear hq))
      | (go_at_call 98;refine (within_any _ regs _).mono ?_;rintro e w1 ⟨b1,rfl,hw,hb1⟩;replace HB:=aq (below_step (by first|exact HB.out|exact below_alloc HB.out _) hb1);replace HZ:=aq (blk_below (by first|exact HZ.out|exact blk_alloc HZ.out _) hb1);clear hb1 p0 p1 p2 p3 p4 p5 p6 p7 p8;obtain ⟨p0,p1,p2,p3,p4,p5,p6,p7,p8⟩:=cells9 HZ.out;cases b1;all_goals (first|(have HW_:=aq (hw rfl);clear hw)|clear hw))
      | fail)
     all_goals (go_meet;case rel => exact ⟨_,rfl,⟨by first|exact fun h => absurd h (by decide)|exact fun _ => ⟨(fun h => by first|exact absurd (h.symm.trans (show Aside0 (hasB s 97 = false) from (by assumption)).out) (by decide)|exact (show Aside0 (0 ≤ x.f1 ∧ x.f1 < regs) from (by assumption)).out),(fun h => by first|exact absurd (h.symm.trans (show Aside0 (hasB s 98 = false) from (by assumption)).out) (by decide)|exact (show Aside0 (0 ≤ x.f2 ∧ x.f2 < regs) from (by assumption)).out),(fun h => by first|exact absurd (h.symm.trans (show Aside0 (hasB s 99 = false) from (by assumption)).out) (by decide)|exact (show Aside0 (0 ≤ x.f3 ∧ x.f3 < regs) from (by assumption)).out)⟩⟩,HB,HZ⟩)
    case rest =>
     obtain ⟨b,rfl,HO,HB,HZ⟩:=hcut
     cases b with
     | true =>
      go_wp2_with fail
      exact HQ.out 12 _ (fun h => absurd h (by decide)) HB.out
     | false =>
      obtain ⟨n,hn⟩ : ∃ n,n = x.f8.length:=⟨_,rfl⟩
      have HN:=aq hn
      obtain ⟨p0,p1,p2,p3,p4,p5,p6,p7,p8⟩:=cells9 HZ.out
      rw [← hn] at p8
      clear hn
      go_upto_block 0 with fail
      go_wp2_with fail
      go_loopg [13] n (fun kq v13 wr => ∃ i : Nat,v13 = .int .i64 (i : Int) ∧ i + kq = n ∧ Aside0 (∀ y ∈ x.f8.take i,inR y regs) ∧ Aside0 (Below w.heap.size w wr) ∧ Aside0 (wr.heap[w.heap.size]? = some (Obj.cells #[.int .i64 x.f0,.int .i64 x.f1,.int .i64 x.f2,.int .i64 x.f3,.int .i64 x.f4,.string x.f5,.string x.f6,.string x.f7,.slice A8 x.f8.length c8] 74 (0,0))))
      case atStart => exact ⟨0,rfl,by omega,⟨fun y h => by cases h⟩,HB,HZ⟩
      case round =>
       obtain ⟨i,rfl,hi,HT,HB,HZ⟩:=hrel
       clear p0 p1 p2 p3 p4 p5 p6 p7 p8
       obtain ⟨p0,p1,p2,p3,p4,p5,p6,p7,p8⟩:=cells9 HZ.out
       rw [← HN.out] at p8
       by_cases hlt : i < n
       ·
        have hltX : i < x.f8.length:=by rw [← HN.out];exact hlt
        obtain ⟨ad,hA,hcell⟩:=int_at (Kd.C_below HC.out HB.out) i hltX
        obtain ⟨y,hy⟩ : ∃ y,x.f8.getD i 0 = y:=⟨_,rfl⟩
        rw [hy] at hcell
        subst hA
        have HNX:=aq (fun hp => ok_at (p:=fun y => inR y regs) HT.out hltX (by rw [hy];exact hp))
        have hd : decide ((i : Int) < (n : Int)) = true:=decide_eq_true (by omega)
        have hi0 : (0 : Int) ≤ (i : Int):=by omega
        have hi1 : (i : Int) < (n : Int):=by omega
        have hd2 : decide (i < n) = true:=decide_eq_true (by omega)
        have hi2 : (i < n) = True:=eq_true (by omega)
        have HLT:=aq hlt
        obtain ⟨K1,hK1⟩ : ∃ K1,i + 1 + K1 = n ∧ K1 < gk:=⟨gk - 1,by omega⟩
        have HGO:=aq hK1
        clear hy hltX hK1 hi hlt HT
        go_wp2_with (first
         | (go_at_call 98;refine (within_any _ regs _).mono ?_;rintro e w1 ⟨b1,rfl,hw,hb1⟩;replace HB:=aq (below_step (by first|exact HB.out|exact below_alloc HB.out _) hb1);replace HZ:=aq (blk_below (by first|exact HZ.out|exact blk_alloc HZ.out _) hb1);clear hb1 p0 p1 p2 p3 p4 p5 p6 p7 p8;obtain ⟨p0,p1,p2,p3,p4,p5,p6,p7,p8⟩:=cells9 HZ.out;have HW_:=aq hw;clear hw;cases b1)
         | fail)
        ·
         exact HQ.out 12 _ (fun h => absurd h (by decide)) HB.out
        ·
         go_roundg K1
         case measure => exact HGO.out.2
         case rel => exact ⟨i + 1,by rw [show wrap64 ((i : Int) + 1) = ((i + 1 : Nat) : Int) from wrap_nextQ i n HLT.out (by have h1:=HL.out;have h2:=HN.out;omega)],HGO.out.1,⟨HNX.out (HW_.out (by first|rfl|trivial))⟩,HB,HZ⟩
       ·
        have hd : decide ((i : Int) < (n : Int)) = false:=decide_eq_false (by omega)
        have hd2 : decide (i < n) = false:=decide_eq_false (by omega)
        have HFO : Aside0 (FitsOK x regs):=⟨by rw [FitsOK,HSS.out];exact ⟨(HO.out (by first|rfl|trivial)).1,(HO.out (by first|rfl|trivial)).2.1,(HO.out (by first|rfl|trivial)).2.2,ok_end HT.out (by rw [← HN.out];omega)⟩⟩
        clear hi hlt HT
        go_wp2_with (first
         | (go_at_call 74;refine (has_any s _ HS.out.1 _).mono ?_;rintro e w1 ⟨rfl,hb1⟩;replace HB:=aq (below_step (by first|exact HB.out|exact below_alloc HB.out _) hb1);replace HZ:=aq (blk_below (by first|exact HZ.out|exact blk_alloc HZ.out _) hb1);clear hb1 p0 p1 p2 p3 p4 p5 p6 p7 p8;obtain ⟨p0,p1,p2,p3,p4,p5,p6,p7,p8⟩:=cells9 HZ.out)
         | fail)
        all_goals first|exact HQ.out 0 _ (fun _ => HFO.out) HB.out|exact HQ.out 12 _ (fun h => absurd h (by decide)) HB.out
theorem fits_any (x : S74) (A8 : Option Addr) (c8 : Nat) (regs code : Int) (h5 : x.f5.size ≤ 140737488351232) (h6 : x.f6.size ≤ 140737488351232) (hl : x.f8.length ≤ 140737488351232) (w : World) (hC : Kd.C (Kd.int .i64) w A8 x.f8.length x.f8) : Calls Try.prog 86 #[.agg #[.int .i64 x.f0, .int .i64 x.f1, .int .i64 x.f2, .int .i64 x.f3, .int .i64 x.f4, .string x.f5, .string x.f6, .string x.f7, .slice A8 x.f8.length c8], .int .i64 regs, .int .i64 code] w fun e w' => ∃ n, e = .returned (.int .i64 n) ∧ (n = 0 → FitsOK x regs) ∧ Below w.heap.size w w' := fits_q x A8 c8 regs code h5 h6 hl w hC _ ⟨fun n _ h hb => ⟨n, rfl, h, hb⟩⟩
end Go.Proofs.Ytfplcohjnlbfjaa.Hand
end

section
namespace Go.Proofs.Ytfplcohjnlbfjaa.Hand
open Go.ChangeShapes Go.WideShapes Go.ChangeAt Go.RowKit Go.Proofs.YtfplcohjnlbfjaaW.PrintWords Go.Proofs.YtfplcohjnlbfjaaW.PrintLast Go.Proofs.YtfplcohjnlbfjaaW.PrintMore
section
variable {H : Type} {enc : TypeId × Value → H} {P : Program} {w : World} {base : Nat} {spare : Nat → Bool} {held : Bool}
end
end Go.Proofs.Ytfplcohjnlbfjaa.Hand
end

section
namespace Go.Proofs.Ytfplcohjnlbfjaa.Hand
open Go.ChangeShapes Go.WideShapes Go.ChangeAt Go.Joins Go.Deep Go.RowKit Go.Proofs.YtfplcohjnlbfjaaW.PrintWords Go.Proofs.YtfplcohjnlbfjaaW.PrintLast Go.Proofs.YtfplcohjnlbfjaaW.PrintMore
namespace Op
theorem list_each {α : Type} {Q : Nat → α → Prop} : ∀ (n : Nat), (∀ i, i < n → ∃ a, Q i a) → ∃ l : List α, l.length = n ∧ ∀ i a, l[i]? = some a → Q i a
 | 0,_ => ⟨[],rfl,fun i a h => by simp at h⟩
 | n + 1,h => by
  obtain ⟨l,hl,hq⟩:=list_each n fun i hi => h i (by omega)
  obtain ⟨a,ha⟩:=h n (by omega)
  refine ⟨l ++ [a],by simp [hl],fun i b hb => ?_⟩
  by_cases hi : i < l.length
  ·
   rw [List.getElem?_append_left hi] at hb
   exact hq i b hb
  ·
   rw [List.getElem?_append_right (by omega)] at hb
   have h0 : i - l.length = 0:=by
    have:=(List.getElem?_eq_some_iff.1 hb).1
    simp at this
    omega
   rw [h0] at hb
   simp at hb
   have : i = n:=by omega
   rw [this,← hb]
   exact ha
theorem add_add (a : Addr) (i j : Nat) : (a.add i).add j = a.add (i + j) := by
 unfold Addr.add
 by_cases hi : i = 0
 ·
  subst hi;simp
 ·
  by_cases hj : j = 0
  ·
   subst hj;simp
  ·
   rw [if_neg hi,if_neg hj,if_neg (by omega),Nat.add_assoc]
theorem cells_each {w : World} {base n : Nat} {a : Addr} {cs : List Value} (h : w.cells? base a n = some cs) : cs.length = n ∧ ∀ j u, cs[j]? = some u → w.cell? (a.add j) = some u := by
 unfold World.cells? at h
 split at h
 ·
  have hl:=mapM_some_length h
  rw [List.length_range] at hl
  refine ⟨hl,fun j u hu => ?_⟩
  have hj:=(List.getElem?_eq_some_iff.1 hu).1
  have hg:=mapM_some_get h j j (by rw [List.getElem?_range (by omega)])
  rw [hg,hu]
 ·
  cases h
section
variable {H : Type} {enc : TypeId × Value → H} {P : Program} {w : World} {base : Nat} {spare : Nat → Bool} {held : Bool}
theorem weights_all {t : TypeId} : ∀ {l : List (DataW H)} {d : DataW H}, d ∈ l → ∀ n ∈ d.weights P t, n ∈ DataW.weightsAll P t l
 | a :: l,d,hd,n,hn => by
  simp only [DataW.weightsAll,List.mem_append]
  rcases List.mem_cons.1 hd with rfl|hd
  ·
   exact .inl hn
  ·
   exact .inr (weights_all hd n hn)
def Opens (enc : TypeId × Value → H) (P : Program) (w : World) (base : Nat) (spare : Nat → Bool) (held : Bool) {α : Type} (kd : Kd α) (Q : α → Prop) (t : TypeId) : Prop :=
 ∀ (n : Nat) (cs : List Value) (x : DataW H × List MemPlace),DataW.trod enc P w base spare held n t cs = some x → (∀ m ∈ x.1.weights P t,m ≤ reachBytes) → ∃ a,kd.K w a cs ∧ Q a
theorem opens_str {t : TypeId} (ht : P.underlying t = some .string) : Opens enc P w base spare held Kd.string (fun s => s.size ≤ 140737488351232) t := by
 intro n cs x h hw
 obtain ⟨s,rfl,rfl,_⟩:=DataW.trod_string ht h
 have h2:=hw s.data.toList.length (by simp [DataW.weights])
 rw [Array.length_toList] at h2
 exact ⟨s,rfl,h2⟩
theorem opens_bool {t : TypeId} (ht : P.underlying t = some .bool) : Opens enc P w base spare held Kd.bool (fun _ => True) t := by
 intro n cs x h hw
 obtain ⟨b,rfl,rfl⟩:=DataW.trod_bool ht h
 exact ⟨b,rfl,trivial⟩
theorem opens_int {k : IntKind} {t : TypeId} (ht : P.underlying t = some (.int k)) : Opens enc P w base spare held (Kd.int k) (fun i => (Lit.int k i).wf = true) t := by
 intro n cs x h hw
 obtain ⟨i,rfl,rfl,hwf⟩:=DataW.trod_int ht h
 exact ⟨i,rfl,hwf⟩
theorem opens_slice {α : Type} {kd : Kd α} {Q : α → Prop} {t e : TypeId} (ht : P.underlying t = some (.slice e)) (hc : P.cellsOf e = kd.sz) (hB : 1 ≤ P.bytesOf e) (ho : Opens enc P w base spare held kd Q e) :
  Opens enc P w base spare held (Kd.slice e kd) (fun l => l.length ≤ 140737488351232 ∧ ∀ x ∈ l,Q x) t:=by
 intro fuel cs d hf hw
 rcases DataW.trod_slice ht hf with ⟨rfl,_⟩|⟨x,len,cap,elems,rest,n,_,rfl,hx,hb,hl,hm,hlen,hel,_,_⟩
 ·
  exact ⟨[],⟨none,0,rfl,Nat.le_refl _,⟨rfl,Nat.zero_le _,fun h => absurd h (Nat.lt_irrefl 0)⟩⟩,Nat.zero_le _,by simp⟩
 ·
  subst hx
  have hlw : len ≤ 140737488351232:=by
   have h1:=hw ((elems.map (·.1)).length * P.bytesOf e + (rest.map (·.1)).length * P.bytesOf e) (by simp [DataW.weights,ht,Nat.add_mul])
   rw [List.length_map,hlen] at h1
   have h2 : len * 1 ≤ len * P.bytesOf e:=Nat.mul_le_mul_left _ hB
   have h3 : reachBytes = 140737488351232:=rfl
   omega
  have each : ∀ i,i < len → ∃ y : α,Q y ∧ ∃ cs : List Value,cs.length = kd.sz ∧ kd.K w y cs ∧ ∀ j u,cs[j]? = some u → w.cell? (x.add (i * kd.sz + j)) = some u:=by
   intro i hi
   have h1:=hel i hi
   have hi2 : i < elems.length:=by omega
   rw [List.getElem?_eq_getElem hi2,hc,Option.bind_eq_some_iff] at h1
   obtain ⟨cs,h2,h3⟩:=h1
   obtain ⟨y,h4,h5⟩:=ho _ _ _ h3 (fun m hm => hw m (by
    simp only [DataW.weights,ht,List.mem_cons,List.mem_append]
    exact .inr (.inl (weights_all (List.mem_map_of_mem (List.getElem_mem hi2)) m hm))))
   obtain ⟨h6,h7⟩:=cells_each h2
   refine ⟨y,h5,cs,h6,h4,fun j z hz => ?_⟩
   have h8:=h7 j z hz
   rw [add_add] at h8
   exact h8
  obtain ⟨ls,hls,hq⟩:=list_each len each
  have hmx : len ≤ 9223372036854775807:=by omega
  refine ⟨ls,⟨some x,cap,by rw [hls],by rw [hls];exact hl,⟨rfl,by rw [hls];exact hmx,fun _ => ⟨x,rfl,fun j p hp => ?_⟩⟩⟩,by rw [hls];exact hlw,fun y hy => ?_⟩
  ·
   obtain ⟨_,cs,h1,h2,h3⟩:=hq j p hp
   exact ⟨cs,h1,h2,fun i u hu => h3 i u hu⟩
  ·
   obtain ⟨i,hi⟩:=List.getElem?_of_mem hy
   exact (hq i y hi).1
def Fields (enc : TypeId × Value → H) (P : Program) (w : World) (base : Nat) (spare : Nat → Bool) (held : Bool) {α : Type} (kd : Kd α) (Q : α → Prop) (fs : List Field) (o : Nat) : Prop :=
 ∀ (n : Nat) (cs : List Value) (xs : List (DataW H × List MemPlace)),cs.length = o + kd.sz → xs.length = fs.length →
  (∀ (i : Nat) (f : Field),fs[i]? = some f → DataW.trod enc P w base spare held n f.type ((cs.drop f.offset).take (P.cellsOf f.type)) = xs[i]?) →
  (∀ (i : Nat) (f : Field) (x : DataW H × List MemPlace),fs[i]? = some f → xs[i]? = some x → ∀ m ∈ x.1.weights P f.type,m ≤ reachBytes) → ∃ a,kd.K w a (cs.drop o) ∧ Q a
theorem fields_one {α : Type} {kd : Kd α} {Q : α → Prop} {f : Field} {o : Nat} (hoff : f.offset = o) (hc : P.cellsOf f.type = kd.sz) (ho : Opens enc P w base spare held kd Q f.type) : Fields enc P w base spare held kd Q [f] o := by
 intro n cs xs hl hx hf hw
 match xs,hx with
 | [y],_ =>
  have h:=hf 0 f rfl
  rw [hoff,hc,List.take_of_length_le (by rw [List.length_drop];omega)] at h
  exact ho _ _ _ h (hw 0 f y rfl rfl)
theorem fields_cons {α β : Type} {k1 : Kd α} {k2 : Kd β} {Q1 : α → Prop} {Q2 : β → Prop} {f : Field} {fs : List Field} {o : Nat} (hoff : f.offset = o) (hc : P.cellsOf f.type = k1.sz) (ho : Opens enc P w base spare held k1 Q1 f.type)
  (h2 : Fields enc P w base spare held k2 Q2 fs (o + k1.sz)) : Fields enc P w base spare held (Kd.pair k1 k2) (fun p => Q1 p.1 ∧ Q2 p.2) (f :: fs) o:=by
 intro n cs xs hl hx hf hw
 have hl' : cs.length = o + (k1.sz + k2.sz):=hl
 match xs,hx with
 | y :: ys,hx =>
  have h:=hf 0 f rfl
  rw [hoff,hc] at h
  obtain ⟨a,ha,qa⟩:=ho _ _ _ h (hw 0 f y rfl rfl)
  obtain ⟨b,hb,qb⟩:=h2 n cs ys (by omega) (by simpa using hx) (fun i g hg => by have:=hf (i + 1) g (by simpa using hg);simpa using this) (fun i g x hg hx => hw (i + 1) g x (by simpa using hg) (by simpa using hx))
  refine ⟨(a,b),⟨(cs.drop o).take k1.sz,cs.drop (o + k1.sz),?_,ha,hb⟩,qa,qb⟩
  rw [← List.drop_drop,List.take_append_drop]
theorem weights_fields : ∀ {fs : List Field} {xs : List (DataW H × List MemPlace)} {i : Nat} {f : Field} {x : DataW H × List MemPlace}, fs[i]? = some f → xs[i]? = some x → ∀ m ∈ x.1.weights P f.type, m ∈ DataW.weightsEach P (fs.map (·.type)) (xs.map (·.1))
 | [],_,i,f,x,hf,_,_,_ => by simp at hf
 | _ :: _,[],i,f,x,_,hx,_,_ => by simp at hx
 | g :: fs,y :: ys,0,f,x,hf,hx,m,hm => by
  simp at hf hx
  subst hf hx
  simp only [List.map_cons,DataW.weightsEach,List.mem_append]
  exact .inl hm
 | g :: fs,y :: ys,i + 1,f,x,hf,hx,m,hm => by
  simp only [List.map_cons,DataW.weightsEach,List.mem_append]
  exact .inr (weights_fields (fs:=fs) (xs:=ys) (i:=i) (by simpa using hf) (by simpa using hx) m hm)
theorem opens_struct {α : Type} {kd : Kd α} {Q : α → Prop} {t : TypeId} {fs : Array Field} (ht : P.underlying t = some (.struct fs)) (hc : P.cellsOf t = kd.sz) (hf : Fields enc P w base spare held kd Q fs.toList 0) : Opens enc P w base spare held kd Q t := by
 intro fuel cs x h hw
 obtain ⟨xs,m,_,rfl,hl,hlen,hi⟩:=DataW.trod_struct ht h
 obtain ⟨a,ha,hq⟩:=hf m cs xs (by omega) (by simpa using hlen) (fun i f hf => hi i f (by simpa using hf)) (fun i f x hf hx n hn => hw n (by
  simp only [DataW.weights,ht]
  exact weights_fields hf hx n hn))
 exact ⟨a,by simpa using ha,hq⟩
theorem opens_iso {α β : Type} {kd : Kd α} {Q : α → Prop} {t : TypeId} {f : β → α} (g : α → β) (hg : ∀ a, f (g a) = a) (ho : Opens enc P w base spare held kd Q t) : Opens enc P w base spare held (Kd.iso kd f) (fun b => Q (f b)) t := by
 intro n cs x h hw
 obtain ⟨a,ha,hq⟩:=ho n cs x h hw
 exact ⟨g a,by show kd.K w (f (g a)) cs;rw [hg];exact ha,by show Q (f (g a));rw [hg];exact hq⟩
theorem opens_mono {α : Type} {kd : Kd α} {Q Q' : α → Prop} {t : TypeId} (ho : Opens enc P w base spare held kd Q t) (h : ∀ a, Q a → Q' a) : Opens enc P w base spare held kd Q' t := by
 intro n cs x hx hw
 obtain ⟨a,ha,hq⟩:=ho n cs x hx hw
 exact ⟨a,ha,h a hq⟩
theorem open_agg {α : Type} {kd : Kd α} {Q : α → Prop} {t : TypeId} {fs : Array Field} {r : Reach} {b0 : Nat} {v : Value} {d : DataW H} {ps : List MemPlace} (ht : P.underlying t = some (.struct fs)) (ho : Opens enc P w base spare held kd Q t)
  (hw : ∀ n ∈ d.weights P t,n ≤ reachBytes) (hval : Value.okWide P w r b0 t v) (hd : DataW.Trod enc P w base spare held t v d ps) : ∃ a cs,v = .agg ⟨cs⟩ ∧ kd.K w a cs ∧ Q a:=by
 obtain ⟨⟨cs⟩,rfl,_⟩:=okWide_struct ht hval
 obtain ⟨fuel,hf⟩:=hd
 obtain ⟨a,ha,hq⟩:=ho _ _ _ hf hw
 exact ⟨a,cs,rfl,ha,hq⟩
end
end Op
end Go.Proofs.Ytfplcohjnlbfjaa.Hand
end

section
namespace Go.Proofs.Ytfplcohjnlbfjaa.Hand
open Go.ChangeShapes Go.WideShapes Go.ChangeAt Go.Joins Go.Deep Go.RowKit Go.Proofs.YtfplcohjnlbfjaaW.PrintWords Go.Proofs.YtfplcohjnlbfjaaW.PrintLast Go.Proofs.YtfplcohjnlbfjaaW.PrintMore
namespace Op
section
variable {H : Type} {enc : TypeId × Value → H} {w : World} {base : Nat} {spare : Nat → Bool} {held : Bool}
def QType (x : S97) : Prop := x.f1.size ≤ 140737488351232
def QField (x : S103) : Prop := x.f0.size ≤ 140737488351232 ∧ QType x.f1
def QInstr (x : S74) : Prop := (Lit.int .i64 x.f0).wf = true ∧ (Lit.int .i64 x.f1).wf = true ∧ (Lit.int .i64 x.f2).wf = true ∧ (Lit.int .i64 x.f3).wf = true ∧ (Lit.int .i64 x.f4).wf = true ∧ x.f5.size ≤ 140737488351232 ∧ x.f6.size ≤ 140737488351232 ∧ x.f7.size ≤ 140737488351232 ∧ x.f8.length ≤ 140737488351232 ∧ ∀ i ∈ x.f8, (Lit.int .i64 i).wf = true
def QMethod (x : S37) : Prop := x.f0.size ≤ 140737488351232 ∧ x.f1.size ≤ 140737488351232 ∧ (Lit.int .i64 x.f4).wf = true ∧ x.f5.length ≤ 140737488351232 ∧ ∀ i ∈ x.f5, QInstr i
def QClass (x : S33) : Prop := x.f0.size ≤ 140737488351232 ∧ x.f1.size ≤ 140737488351232 ∧ (x.f4.length ≤ 140737488351232 ∧ ∀ s ∈ x.f4, s.size ≤ 140737488351232) ∧ (x.f5.length ≤ 140737488351232 ∧ ∀ s ∈ x.f5, QField s) ∧ (x.f6.length ≤ 140737488351232 ∧ ∀ s ∈ x.f6, QMethod s)
theorem opens_type : Opens enc Try.prog w base spare held k97 QType 97 :=
 opens_mono (opens_iso (fun p => ⟨p.1,p.2⟩) (fun _ => rfl) (opens_struct Try.underlying97 (by kernel_rfl) (fields_cons rfl (by kernel_rfl) (opens_int Try.underlying95) (fields_one rfl (by kernel_rfl) (opens_str Try.underlying9))))) (fun a h => h.2)
theorem opens_field : Opens enc Try.prog w base spare held k103 QField 103 :=
 opens_mono (opens_iso (fun p => ⟨p.1,p.2.1,p.2.2⟩) (fun _ => rfl) (opens_struct Try.underlying103 (by kernel_rfl) (fields_cons rfl (by kernel_rfl) (opens_str Try.underlying9) (fields_cons rfl (by kernel_rfl) opens_type (fields_one rfl (by kernel_rfl) (opens_bool Try.underlying4)))))) (fun a h => ⟨h.1,h.2.1⟩)
theorem opens_instr : Opens enc Try.prog w base spare held k74 QInstr 74 :=
 opens_mono (opens_iso (fun p => ⟨p.1,p.2.1,p.2.2.1,p.2.2.2.1,p.2.2.2.2.1,p.2.2.2.2.2.1,p.2.2.2.2.2.2.1,p.2.2.2.2.2.2.2.1,p.2.2.2.2.2.2.2.2⟩) (fun _ => rfl) (opens_struct Try.underlying74 (by kernel_rfl)
  (fields_cons rfl (by kernel_rfl) (opens_int Try.underlying72) (fields_cons rfl (by kernel_rfl) (opens_int Try.underlying3) (fields_cons rfl (by kernel_rfl) (opens_int Try.underlying3) (fields_cons rfl (by kernel_rfl) (opens_int Try.underlying3) (fields_cons rfl (by kernel_rfl) (opens_int Try.underlying2)
   (fields_cons rfl (by kernel_rfl) (opens_str Try.underlying9) (fields_cons rfl (by kernel_rfl) (opens_str Try.underlying9) (fields_cons rfl (by kernel_rfl) (opens_str Try.underlying9) (fields_one rfl (by kernel_rfl) (opens_slice Try.underlying58 (by kernel_rfl) (of_decide_eq_true (by kernel_rfl)) (opens_int Try.underlying3))))))))))))) (fun a h => ⟨h.1,h.2.1,h.2.2.1,h.2.2.2.1,h.2.2.2.2.1,h.2.2.2.2.2.1,h.2.2.2.2.2.2.1,h.2.2.2.2.2.2.2.1,h.2.2.2.2.2.2.2.2.1,h.2.2.2.2.2.2.2.2.2⟩)
theorem opens_method : Opens enc Try.prog w base spare held k37 QMethod 37 :=
 opens_mono (opens_iso (fun p => ⟨p.1,p.2.1,p.2.2.1,p.2.2.2.1,p.2.2.2.2.1,p.2.2.2.2.2⟩) (fun _ => rfl) (opens_struct Try.underlying37 (by kernel_rfl)
  (fields_cons rfl (by kernel_rfl) (opens_str Try.underlying9) (fields_cons rfl (by kernel_rfl) (opens_str Try.underlying9) (fields_cons rfl (by kernel_rfl) (opens_bool Try.underlying4) (fields_cons rfl (by kernel_rfl) (opens_bool Try.underlying4) (fields_cons rfl (by kernel_rfl) (opens_int Try.underlying3)
   (fields_one rfl (by kernel_rfl) (opens_slice Try.underlying35 (by kernel_rfl) (of_decide_eq_true (by kernel_rfl)) opens_instr))))))))) (fun a h => ⟨h.1,h.2.1,h.2.2.2.2.1,h.2.2.2.2.2.1,h.2.2.2.2.2.2⟩)
theorem opens_class : Opens enc Try.prog w base spare held k33 QClass 33 :=
 opens_mono (opens_iso (fun p => ⟨p.1,p.2.1,p.2.2.1,p.2.2.2.1,p.2.2.2.2.1,p.2.2.2.2.2.1,p.2.2.2.2.2.2⟩) (fun _ => rfl) (opens_struct Try.underlying33 (by kernel_rfl)
  (fields_cons rfl (by kernel_rfl) (opens_str Try.underlying9) (fields_cons rfl (by kernel_rfl) (opens_str Try.underlying9) (fields_cons rfl (by kernel_rfl) (opens_bool Try.underlying4) (fields_cons rfl (by kernel_rfl) (opens_bool Try.underlying4) (fields_cons rfl (by kernel_rfl) (opens_slice Try.underlying23 (by kernel_rfl) (of_decide_eq_true (by kernel_rfl)) (opens_str Try.underlying9))
   (fields_cons rfl (by kernel_rfl) (opens_slice Try.underlying30 (by kernel_rfl) (of_decide_eq_true (by kernel_rfl)) opens_field) (fields_one rfl (by kernel_rfl) (opens_slice Try.underlying31 (by kernel_rfl) (of_decide_eq_true (by kernel_rfl)) opens_method)))))))))) (fun a h => ⟨h.1,h.2.1,h.2.2.2.2.1,h.2.2.2.2.2.1,h.2.2.2.2.2.2⟩)
theorem opens_mref : Opens enc Try.prog w base spare held (Kd.pair Kd.string (Kd.pair Kd.string Kd.string)) (fun p => p.1.size ≤ 140737488351232 ∧ p.2.1.size ≤ 140737488351232 ∧ p.2.2.size ≤ 140737488351232) 25 :=
 opens_mono (opens_struct Try.underlying25 (by kernel_rfl) (fields_cons rfl (by kernel_rfl) (opens_str Try.underlying9) (fields_cons rfl (by kernel_rfl) (opens_str Try.underlying9) (fields_one rfl (by kernel_rfl) (opens_str Try.underlying9))))) (fun a h => h)
def QProg (p : List S33 × List ByteArray × ByteArray × ByteArray × ByteArray) : Prop := (p.1.length ≤ 140737488351232 ∧ ∀ x ∈ p.1, QClass x) ∧ (p.2.1.length ≤ 140737488351232 ∧ ∀ x ∈ p.2.1, x.size ≤ 140737488351232) ∧ (p.2.2.1.size ≤ 140737488351232 ∧ p.2.2.2.1.size ≤ 140737488351232 ∧ p.2.2.2.2.size ≤ 140737488351232)
theorem opens_program : Opens enc Try.prog w base spare held (Kd.pair (Kd.slice 33 k33) (Kd.pair (Kd.slice 9 Kd.string) (Kd.pair Kd.string (Kd.pair Kd.string Kd.string))))
  QProg 27 :=
 opens_mono (opens_struct Try.underlying27 (by kernel_rfl) (fields_cons rfl (by kernel_rfl) (opens_slice Try.underlying22 (by kernel_rfl) (of_decide_eq_true (by kernel_rfl)) opens_class)
  (fields_cons rfl (by kernel_rfl) (opens_slice Try.underlying23 (by kernel_rfl) (of_decide_eq_true (by kernel_rfl)) (opens_str Try.underlying9)) (fields_one rfl (by kernel_rfl) opens_mref)))) (fun a h => h)
theorem open_program {r : Reach} {b0 : Nat} {v : Value} {d : DataW H} {ps : List MemPlace} (hw : ∀ n ∈ d.weights Try.prog 27, n ≤ reachBytes) (hval : Value.okWide Try.prog w r b0 27 v) (hd : DataW.Trod enc Try.prog w base spare held 27 v d ps) :
  ∃ (A0 : Option Addr) (c0 : Nat) (l0 : List S33) (A1 : Option Addr) (c1 : Nat) (l1 : List ByteArray) (a2 a3 a4 : ByteArray),v = .agg (pG A0 l0 c0 A1 l1 c1 a2 a3 a4) ∧
   Kd.C k33 w A0 l0.length l0 ∧ l0.length ≤ c0 ∧ Kd.C Kd.string w A1 l1.length l1 ∧ l1.length ≤ c1 ∧ l0.length ≤ 140737488351232 ∧ (∀ x ∈ l0,QClass x) ∧ l1.length ≤ 140737488351232 ∧ (∀ x ∈ l1,x.size ≤ 140737488351232) ∧ a2.size ≤ 140737488351232 ∧ a3.size ≤ 140737488351232 ∧ a4.size ≤ 140737488351232:=by
 obtain ⟨⟨l0,l1,a2,a3,a4⟩,cs,rfl,hK,hq⟩:=open_agg Try.underlying27 opens_program hw hval hd
 unfold QProg at hq
 obtain ⟨⟨q0,q1⟩,⟨q2,q3⟩,q4,q5,q6⟩:=hq
 obtain ⟨_,_,rfl,⟨A0,c0,rfl,m0,h0⟩,_,_,rfl,⟨A1,c1,rfl,m1,h1⟩,_,_,rfl,rfl,_,_,rfl,rfl,rfl⟩:=hK
 exact ⟨A0,c0,l0,A1,c1,l1,a2,a3,a4,rfl,h0,m0,h1,m1,q0,q1,q2,q3,q4,q5,q6⟩
end
end Op
section
variable {H : Type} {enc : TypeId × Value → H} {P : Program} {w : World} {base : Nat} {spare : Nat → Bool} {held : Bool}
theorem wf_u8 {i : Int} (h : (Lit.int .u8 i).wf = true) : 0 ≤ i ∧ i ≤ 255 := by
 have h1 : IntKind.u8.min = 0:=rfl
 have h2 : IntKind.u8.max = 255:=rfl
 simp [Lit.wf,h1,h2] at h
 exact h
end
end Go.Proofs.Ytfplcohjnlbfjaa.Hand
end

section
namespace Go.Proofs.Ytfplcohjnlbfjaa.Hand
open Go.RowKit Go.Proofs.YtfplcohjnlbfjaaW
open PrintWords PrintLast PrintMore
def FitsM (m : S37) : Prop := ∀ x ∈ m.f5, FitsOK x m.f4
theorem cells6m {w : World} {g : Nat} {t : TypeId} {u0 u1 u2 u3 u4 u5 : Value} (h : w.heap[g]? = some (Obj.cells #[u0, u1, u2, u3, u4, u5] t (0, 0))) : w.cell? ⟨g, 0, none⟩ = some u0 ∧ w.cell? ⟨g, 1, none⟩ = some u1 ∧ w.cell? ⟨g, 2, none⟩ = some u2 ∧ w.cell? ⟨g, 3, none⟩ = some u3 ∧ w.cell? ⟨g, 4, none⟩ = some u4 ∧ w.cell? ⟨g, 5, none⟩ = some u5 := ⟨blk_cell h 0, blk_cell h 1, blk_cell h 2, blk_cell h 3, blk_cell h 4, blk_cell h 5⟩
theorem rmethod_q (m : S37) (D5 : Option Addr) (e5 : Nat) (hm : Op.QMethod m) (w : World) (hC : Kd.C k74 w D5 m.f5.length m.f5) (Q : Ending → World → Prop) (HQ : Aside0 (∀ b w', (b = true → FitsM m) → Below w.heap.size w w' → Q (.returned (.bool b)) w')) :
  Calls Try.prog 66 #[.agg (zH m D5 e5)] w Q:=by
 have HB:=aq (below_alloc (Below.refl w.heap.size w) (Obj.cells (zH m D5 e5) 37))
 have h0:=World.alloc_heap_new w (Obj.cells (zH m D5 e5) 37)
 obtain ⟨W,hW⟩ : ∃ W,w.alloc (Obj.cells (zH m D5 e5) 37) = W:=⟨_,rfl⟩
 rw [hW] at HB h0
 have HW:=aq hW
 have HZ:=aq h0
 have HC:=aq hC
 have HM:=aq hm
 have HS : Aside0 (m.f0.size ≤ 140737488351232):=⟨hm.1⟩
 have HL : Aside0 (m.f5.length ≤ 140737488351232):=⟨hm.2.2.2.1⟩
 clear h0 hW hC hm
 go_enter Try.func66,Try.ntmps66
 go_upto_region 1 with fail
 rw [HW.out]
 obtain ⟨p0,p1,p2,p3,p4,p5⟩:=cells6m HZ.out
 go_upto_region 2 with (first
  | (go_at_call 48;refine (split_any m.f1 _).mono ?_;rintro e w1 ⟨As,ns,cs,t1,t2,er,rfl,hb1⟩;replace HB:=aq (below_step (by first|exact HB.out|exact below_alloc HB.out _) hb1);replace HZ:=aq (blk_below (by first|exact HZ.out|exact blk_alloc HZ.out _) hb1);clear hb1 p0 p1 p2 p3 p4 p5;obtain ⟨p0,p1,p2,p3,p4,p5⟩:=cells6m HZ.out)
  | fail)
 have HBN:=aq (below_alloc HB.out (Obj.cells #[.int .i64 t1,.string t2] 97))
 have HZN:=aq (blk_alloc HZ.out (Obj.cells #[.int .i64 t1,.string t2] 97))
 clear p0 p1 p2 p3 p4 p5
 generalize w1.heap.size = q
 generalize w1.alloc (Obj.cells #[.int .i64 t1,.string t2] 97) = W2 at HBN HZN ⊢
 replace HB:=HBN
 replace HZ:=HZN
 obtain ⟨p0,p1,p2,p3,p4,p5⟩:=cells6m HZ.out
 go_cut [5,32] (fun v5 v32 wc => ∃ b,v32 = .bool b ∧ Aside0 (Below w.heap.size w wc) ∧ Aside0 (wc.heap[w.heap.size]? = some (Obj.cells (zH m D5 e5) 37 (0,0))))
 case first =>
  go_wp2_with (first
   | (go_at_call 64;refine (name_any m.f0 (by have:=HS.out;omega) _).mono ?_;rintro e w1 ⟨b1,rfl,hb1⟩;replace HB:=aq (below_step (by first|exact HB.out|exact below_alloc HB.out _) hb1);replace HZ:=aq (blk_below (by first|exact HZ.out|exact blk_alloc HZ.out _) hb1);clear hb1 p0 p1 p2 p3 p4 p5;obtain ⟨p0,p1,p2,p3,p4,p5⟩:=cells6m HZ.out)
   | fail)
  all_goals (go_meet;case rel => exact ⟨_,rfl,HB,HZ⟩)
 case rest =>
  obtain ⟨b,rfl,HB,HZ⟩:=hcut
  cases b with
  | true =>
   go_wp2_with fail
   exact HQ.out false _ (fun h => absurd h Bool.false_ne_true) HB.out
  | false =>
   go_upto_region 4 with fail
   obtain ⟨p0,p1,p2,p3,p4,p5⟩:=cells6m HZ.out
   cases hab : m.f3 with
   | true =>
    go_upto_region 5 with fail
    replace HZ : Aside0 (_ = some (Obj.cells #[.string m.f0,.string m.f1,.bool m.f2,.bool (m.f3),.int .i64 m.f4,.slice D5 m.f5.length e5] 37 (0,0))):=HZ
    rw [hab] at HZ
    by_cases hle : m.f5.length = 0
    ·
     have HE : Aside0 (FitsM m):=⟨fun x hx => by rw [List.length_eq_zero_iff.1 hle] at hx;cases hx⟩
     clear hle
     go_wp2_with fail
     all_goals exact HQ.out _ _ (fun _ => HE.out) HB.out
    ·
     have hd : (((m.f5.length : Nat) : Int) == 0) = false:=by
      rw [beq_eq_false_iff_ne]
      omega
     have hd2 : decide (((m.f5.length : Nat) : Int) = 0) = false:=decide_eq_false (by omega)
     go_wp2_with fail
     all_goals exact HQ.out false _ (fun h => absurd h Bool.false_ne_true) HB.out
   | false =>
    replace HZ : Aside0 (_ = some (Obj.cells #[.string m.f0,.string m.f1,.bool m.f2,.bool (m.f3),.int .i64 m.f4,.slice D5 m.f5.length e5] 37 (0,0))):=HZ
    rw [hab] at HZ
    go_upto_if 58 with fail
    go_cut [6] (fun v6 wc => ∃ q : Int,v6 = .int .i64 q ∧ Aside0 (Below w.heap.size w wc) ∧ Aside0 (wc.heap[w.heap.size]? = some (Obj.cells #[.string m.f0,.string m.f1,.bool m.f2,.bool false,.int .i64 m.f4,.slice D5 m.f5.length e5] 37 (0,0))))
    case first =>
     go_wp2_with fail
     all_goals (go_meet;case rel => exact ⟨_,rfl,HB,HZ⟩)
    case rest =>
     obtain ⟨q,rfl,HB,HZ⟩:=hcut
     go_upto_region 9 with fail
     obtain ⟨p0,p1,p2,p3,p4,p5⟩:=cells6m HZ.out
     go_cut [76] (fun v76 wc => ∃ b,v76 = .bool b ∧ Aside0 (Below w.heap.size w wc) ∧ Aside0 (wc.heap[w.heap.size]? = some (Obj.cells #[.string m.f0,.string m.f1,.bool m.f2,.bool false,.int .i64 m.f4,.slice D5 m.f5.length e5] 37 (0,0))))
     case first =>
      go_wp2_with fail
      all_goals (go_meet;case rel => exact ⟨_,rfl,HB,HZ⟩)
     case rest =>
      obtain ⟨b,rfl,HB,HZ⟩:=hcut
      cases b with
      | true =>
       go_wp2_with fail
       exact HQ.out false _ (fun h => absurd h Bool.false_ne_true) HB.out
      | false =>
       obtain ⟨n,hn⟩ : ∃ n,n = m.f5.length:=⟨_,rfl⟩
       have HN:=aq hn
       obtain ⟨p0,p1,p2,p3,p4,p5⟩:=cells6m HZ.out
       rw [← hn] at p5
       clear hn
       go_upto_block 0 with fail
       go_wp2_with fail
       go_loopg [7] n (fun kq v7 wr => ∃ i : Nat,v7 = .int .i64 (i : Int) ∧ i + kq = n ∧ Aside0 (∀ y ∈ m.f5.take i,FitsOK y m.f4) ∧ Aside0 (Below w.heap.size w wr) ∧ Aside0 (wr.heap[w.heap.size]? = some (Obj.cells #[.string m.f0,.string m.f1,.bool m.f2,.bool false,.int .i64 m.f4,.slice D5 m.f5.length e5] 37 (0,0))))
       case atStart => exact ⟨0,rfl,by omega,⟨fun y h => by cases h⟩,HB,HZ⟩
       case round =>
        obtain ⟨i,rfl,hi,HT,HB,HZ⟩:=hrel
        clear p0 p1 p2 p3 p4 p5
        obtain ⟨p0,p1,p2,p3,p4,p5⟩:=cells6m HZ.out
        rw [← HN.out] at p5
        by_cases hlt : i < n
        ·
         have hltX : i < m.f5.length:=by rw [← HN.out];exact hlt
         obtain ⟨ad,A8,c8,hA,h0,h1,h2,h3,h4,h5,h6,h7,h8,hl8,hC8⟩:=at_T74 (Kd.C_below HC.out HB.out) (i : Int) (by omega) (Int.ofNat_lt.2 hltX)
         have hx : rd_T74 m.f5 (i : Int) = m.f5[i]:=by
          unfold rd_T74
          rw [Int.toNat_natCast,List.getD_eq_getElem?_getD,List.getElem?_eq_getElem hltX]
          rfl
         rw [hx,Int.toNat_natCast] at h0 h1 h2 h3 h4 h5 h6 h7 h8
         rw [hx] at hl8 hC8
         have hqi:=HM.out.2.2.2.2 _ (List.getElem_mem hltX)
         obtain ⟨x,hy⟩ : ∃ x,m.f5[i] = x:=⟨_,rfl⟩
         rw [hy] at h0 h1 h2 h3 h4 h5 h6 h7 h8 hl8 hC8 hqi
         subst hA
         have HNX:=aq (fun hp => ok_next (p:=fun y => FitsOK y m.f4) HT.out hltX hy hp)
         have HSZ : Aside0 (x.f5.size ≤ 140737488351232 ∧ x.f6.size ≤ 140737488351232 ∧ x.f8.length ≤ 140737488351232):=⟨hqi.2.2.2.2.2.1,hqi.2.2.2.2.2.2.1,hqi.2.2.2.2.2.2.2.2.1⟩
         have HC8:=aq hC8
         have HBX : Aside0 (Below wr.heap.size wr wr.drew):=⟨below_drew1 (Below.refl _ _)⟩
         have HBF : Aside0 (Below w.heap.size w wr.drew):=⟨below_step HB.out HBX.out⟩
         have HZX:=aq (blk_below HZ.out HBX.out)
         have z0 : wr.drew.cell? ⟨w.heap.size,4,none⟩ = some (.int .i64 m.f4):=blk_cell HZX.out 4
         have z1 : wr.drew.cell? ⟨w.heap.size,5,none⟩ = some (.slice (some ad) n e5):=by rw [HN.out];exact blk_cell HZX.out 5
         have z2 : wr.drew.cell? (ad.add (i * 9)) = some (.int .i64 x.f0):=sC HBX.out h0
         have z3 : wr.drew.cell? ⟨(ad.add (i * 9)).block,(ad.add (i * 9)).off + 1,none⟩ = some (.int .i64 x.f1):=sC HBX.out h1
         have z4 : wr.drew.cell? ⟨(ad.add (i * 9)).block,(ad.add (i * 9)).off + 2,none⟩ = some (.int .i64 x.f2):=sC HBX.out h2
         have z5 : wr.drew.cell? ⟨(ad.add (i * 9)).block,(ad.add (i * 9)).off + 3,none⟩ = some (.int .i64 x.f3):=sC HBX.out h3
         have z6 : wr.drew.cell? ⟨(ad.add (i * 9)).block,(ad.add (i * 9)).off + 4,none⟩ = some (.int .i64 x.f4):=sC HBX.out h4
         have z7 : wr.drew.cell? ⟨(ad.add (i * 9)).block,(ad.add (i * 9)).off + 5,none⟩ = some (.string x.f5):=sC HBX.out h5
         have z8 : wr.drew.cell? ⟨(ad.add (i * 9)).block,(ad.add (i * 9)).off + 6,none⟩ = some (.string x.f6):=sC HBX.out h6
         have z9 : wr.drew.cell? ⟨(ad.add (i * 9)).block,(ad.add (i * 9)).off + 7,none⟩ = some (.string x.f7):=sC HBX.out h7
         have z10 : wr.drew.cell? ⟨(ad.add (i * 9)).block,(ad.add (i * 9)).off + 8,none⟩ = some (.slice A8 x.f8.length c8):=sC HBX.out h8
         have hd : decide ((i : Int) < (n : Int)) = true:=decide_eq_true (by omega)
         have hi0 : (0 : Int) ≤ (i : Int):=by omega
         have hi1 : (i : Int) < (n : Int):=by omega
         have hd2 : decide (i < n) = true:=decide_eq_true (by omega)
         have hi2 : (i < n) = True:=eq_true (by omega)
         have HLT:=aq hlt
         obtain ⟨K1,hK1⟩ : ∃ K1,i + 1 + K1 = n ∧ K1 < gk:=⟨gk - 1,by omega⟩
         have HGO:=aq hK1
         clear hx hy hqi hl8 hC8 h0 h1 h2 h3 h4 h5 h6 h7 h8 hltX hK1 hi hlt HT HBX
         have HBX : Aside0 (Below wr.heap.size wr wr.drew):=⟨below_drew1 (Below.refl _ _)⟩
         go_wp2_with fail
         refine start_ (n:=12) (S:=fun w' => w'.cell? ⟨w.heap.size,4,none⟩ = some (.int .i64 m.f4) ∧ w'.cell? ⟨w.heap.size,5,none⟩ = some (.slice (some ad) n e5) ∧ w'.cell? (ad.add (i * 9)) = some (.int .i64 x.f0) ∧ w'.cell? ⟨(ad.add (i * 9)).block,(ad.add (i * 9)).off + 1,none⟩ = some (.int .i64 x.f1) ∧ w'.cell? ⟨(ad.add (i * 9)).block,(ad.add (i * 9)).off + 2,none⟩ = some (.int .i64 x.f2) ∧ w'.cell? ⟨(ad.add (i * 9)).block,(ad.add (i * 9)).off + 3,none⟩ = some (.int .i64 x.f3) ∧ w'.cell? ⟨(ad.add (i * 9)).block,(ad.add (i * 9)).off + 4,none⟩ = some (.int .i64 x.f4) ∧ w'.cell? ⟨(ad.add (i * 9)).block,(ad.add (i * 9)).off + 5,none⟩ = some (.string x.f5) ∧ w'.cell? ⟨(ad.add (i * 9)).block,(ad.add (i * 9)).off + 6,none⟩ = some (.string x.f6) ∧ w'.cell? ⟨(ad.add (i * 9)).block,(ad.add (i * 9)).off + 7,none⟩ = some (.string x.f7) ∧ w'.cell? ⟨(ad.add (i * 9)).block,(ad.add (i * 9)).off + 8,none⟩ = some (.slice A8 x.f8.length c8)) (ds:=[10]) (Array.replicate 12 false) (by kernel_rfl) rfl rfl ⟨z0,z1,z2,z3,z4,z5,z6,z7,z8,z9,z10⟩ (fun hHeld => ?_)
         generalize wr.drew = X at HBX HBF HZX z0 z1 z2 z3 z4 z5 z6 z7 z8 z9 z10 hHeld ⊢
         refine sP (i:=0) (N:=some 84) ?_
         refine sP (i:=2) (N:=some 86) ?_
         refine sP (i:=5) (N:=some 89) ?_
         refine sP (i:=7) (N:=some 91) ?_
         refine sT (i:=1) (N:=some 85) hHeld ?_
         refine sP (i:=3) (N:=some 87) ?_
         refine sT (i:=4) (N:=some 88) hHeld ?_
         refine sT (i:=6) (N:=some 90) hHeld ?_
         refine sT (i:=8) (N:=some 92) hHeld ?_
         refine sP (i:=9) (N:=some 93) ?_
         refine sX (i:=10) (N:=some 94) fun K hK => ?_
         refine sG Try.func86 #[.agg #[.int .i64 x.f0,.int .i64 x.f1,.int .i64 x.f2,.int .i64 x.f3,.int .i64 x.f4,.string x.f5,.string x.f6,.string x.f7,.slice A8 x.f8.length c8],.int .i64 m.f4,.int .i64 (n : Int)] ?_
         refine (fits_any x A8 c8 m.f4 n HSZ.out.1 HSZ.out.2.1 HSZ.out.2.2 X (Kd.C_below HC8.out HBX.out)).mono ?_
         rintro e w6 ⟨r,rfl,hf,hb⟩
         refine ⟨_,rfl,?_⟩
         have HF:=aq hf
         have HB6:=aq (below_step HBF.out hb)
         have HZ6:=aq (blk_below HZX.out hb)
         clear hf hb
         refine hK.out _ _ ?_
         clear hK K
         refine sN ?_
         refine sP (i:=11) (N:=some 95) ?_
         refine done_ (by kernel_rfl) ?_
         clear z0 z1 z2 z3 z4 z5 z6 z7 z8 z9 z10 hHeld p0 p1 p2 p3 p4 p5
         by_cases hr : r = 0
         ·
          have hd2 : (r != 0) = false:=by rw [hr];rfl
          have HOK:=aq (HF.out hr)
          clear hr HF
          go_wp2_with fail
          go_roundg K1
          case measure => exact HGO.out.2
          case rel => exact ⟨i + 1,by rw [show wrap64 ((i : Int) + 1) = ((i + 1 : Nat) : Int) from wrap_nextQ i n HLT.out (by have h1:=HL.out;have h2:=HN.out;omega)],HGO.out.1,⟨HNX.out HOK.out⟩,HB6,HZ6⟩
         ·
          have hd2 : (r != 0) = true:=by
           rw [bne_iff_ne]
           exact hr
          clear hr HF
          go_wp2_with fail
          exact HQ.out false _ (fun h => absurd h Bool.false_ne_true) HB6.out
        ·
         have hd : decide ((i : Int) < (n : Int)) = false:=decide_eq_false (by omega)
         have hd2 : decide (i < n) = false:=decide_eq_false (by omega)
         have HFO : Aside0 (FitsM m):=⟨ok_end HT.out (by rw [← HN.out];omega)⟩
         clear hi hlt HT
         go_wp2_with fail
         all_goals exact HQ.out _ _ (fun _ => HFO.out) HB.out
theorem rmethod_any (m : S37) (D5 : Option Addr) (e5 : Nat) (hm : Op.QMethod m) (w : World) (hC : Kd.C k74 w D5 m.f5.length m.f5) : Calls Try.prog 66 #[.agg (zH m D5 e5)] w fun e w' => ∃ b, e = .returned (.bool b) ∧ (b = true → FitsM m) ∧ Below w.heap.size w w' := rmethod_q m D5 e5 hm w hC _ ⟨fun b _ h hb => ⟨b, rfl, h, hb⟩⟩
theorem cells4m {w : World} {g : Nat} {t : TypeId} {u0 u1 u2 u3 : Value} (h : w.heap[g]? = some (Obj.cells #[u0, u1, u2, u3] t (0, 0))) : w.cell? ⟨g, 0, none⟩ = some u0 ∧ w.cell? ⟨g, 1, none⟩ = some u1 ∧ w.cell? ⟨g, 2, none⟩ = some u2 ∧ w.cell? ⟨g, 3, none⟩ = some u3 := ⟨blk_cell h 0, blk_cell h 1, blk_cell h 2, blk_cell h 3⟩
theorem cells7m {w : World} {g : Nat} {t : TypeId} {u0 u1 u2 u3 u4 u5 u6 : Value} (h : w.heap[g]? = some (Obj.cells #[u0, u1, u2, u3, u4, u5, u6] t (0, 0))) : w.cell? ⟨g, 0, none⟩ = some u0 ∧ w.cell? ⟨g, 1, none⟩ = some u1 ∧ w.cell? ⟨g, 2, none⟩ = some u2 ∧ w.cell? ⟨g, 3, none⟩ = some u3 ∧ w.cell? ⟨g, 4, none⟩ = some u4 ∧ w.cell? ⟨g, 5, none⟩ = some u5 ∧ w.cell? ⟨g, 6, none⟩ = some u6 := ⟨blk_cell h 0, blk_cell h 1, blk_cell h 2, blk_cell h 3, blk_cell h 4, blk_cell h 5, blk_cell h 6⟩
theorem rtype_any (k : Int) (c : ByteArray) (hs : c.size ≤ 9223372036854775806) (w : World) : Calls Try.prog 65 #[.agg #[.int .i64 k, .string c]] w fun e w' => ∃ b, e = .returned (.bool b) ∧ Below w.heap.size w w' :=
 (sr06_Right.calls k c _ w (if_pos hs)).mono fun e w' h => ⟨_,h⟩
theorem rclass_q (c : S33) (B4 B5 B6 : Option Addr) (d4 d5 d6 : Nat) (hc : Op.QClass c) (w : World) (hC4 : Kd.C Kd.string w B4 c.f4.length c.f4) (hC5 : Kd.C k103 w B5 c.f5.length c.f5) (hC6 : Kd.C k37 w B6 c.f6.length c.f6)
  (Q : Ending → World → Prop) (HQ : Aside0 (∀ b w',(b = true → ∀ m ∈ c.f6,FitsM m) → Below w.heap.size w w' → Q (.returned (.bool b)) w')) :
  Calls Try.prog 41 #[.agg (zC c B4 d4 B5 d5 B6 d6)] w Q:=by
 have HB:=aq (below_alloc (Below.refl w.heap.size w) (Obj.cells (zC c B4 d4 B5 d5 B6 d6) 33))
 have h0:=World.alloc_heap_new w (Obj.cells (zC c B4 d4 B5 d5 B6 d6) 33)
 obtain ⟨W,hW⟩ : ∃ W,w.alloc (Obj.cells (zC c B4 d4 B5 d5 B6 d6) 33) = W:=⟨_,rfl⟩
 rw [hW] at HB h0
 have HW:=aq hW
 have HZ:=aq h0
 have HC4:=aq hC4
 have HC5F:=aq hC5
 have HC6:=aq hC6
 have HCQ:=aq hc
 have HS : Aside0 (c.f0.size ≤ 140737488351232 ∧ c.f1.size ≤ 140737488351232):=⟨hc.1,hc.2.1⟩
 have HL4 : Aside0 (c.f4.length ≤ 140737488351232):=⟨hc.2.2.1.1⟩
 have HL5 : Aside0 (c.f5.length ≤ 140737488351232):=⟨hc.2.2.2.1.1⟩
 have HL6 : Aside0 (c.f6.length ≤ 140737488351232):=⟨hc.2.2.2.2.1⟩
 clear h0 hW hC4 hC5 hC6 hc
 go_enter Try.func41,Try.ntmps41
 go_upto_region 1 with fail
 rw [HW.out]
 obtain ⟨p0,p1,p2,p3,p4,p5,p6⟩:=cells7m HZ.out
 go_cut [29] (fun v29 wc => ∃ b,v29 = .bool b ∧ Aside0 (Below w.heap.size w wc) ∧ Aside0 (wc.heap[w.heap.size]? = some (Obj.cells (zC c B4 d4 B5 d5 B6 d6) 33 (0,0))))
 case first =>
  go_wp2_with (first
   | (go_at_call 63;refine (class_any _ (by have:=HS.out;omega) _).mono ?_;rintro e w1 ⟨b1,rfl,hb1⟩;replace HB:=aq (below_step (by first|exact HB.out|exact below_alloc HB.out _) hb1);replace HZ:=aq (blk_below (by first|exact HZ.out|exact blk_alloc HZ.out _) hb1);clear hb1 p0 p1 p2 p3 p4 p5 p6;obtain ⟨p0,p1,p2,p3,p4,p5,p6⟩:=cells7m HZ.out)
   | fail)
  all_goals (go_meet;case rel => exact ⟨_,rfl,HB,HZ⟩)
 case rest =>
  obtain ⟨b,rfl,HB,HZ⟩:=hcut
  cases b with
  | true =>
   go_wp2_with fail
   exact HQ.out false _ (fun h => absurd h Bool.false_ne_true) HB.out
  | false =>
   go_upto_region 3 with fail
   obtain ⟨p0,p1,p2,p3,p4,p5,p6⟩:=cells7m HZ.out
   go_cut [0,47] (fun v0 v47 wc => ∃ b,v47 = .bool b ∧ Aside0 (Below w.heap.size w wc) ∧ Aside0 (wc.heap[w.heap.size]? = some (Obj.cells (zC c B4 d4 B5 d5 B6 d6) 33 (0,0))))
   case first =>
    go_wp2_with fail
    all_goals (go_meet;case rel => exact ⟨_,rfl,HB,HZ⟩)
   case rest =>
    obtain ⟨b,rfl,HB,HZ⟩:=hcut
    cases b with
    | true =>
     go_wp2_with fail
     exact HQ.out false _ (fun h => absurd h Bool.false_ne_true) HB.out
    | false =>
     obtain ⟨n4,hn⟩ : ∃ n,n = c.f4.length:=⟨_,rfl⟩
     have HN4:=aq hn
     obtain ⟨p0,p1,p2,p3,p4,p5,p6⟩:=cells7m HZ.out
     rw [← hn] at p4
     clear hn
     go_upto_block 0 with fail
     go_wp2_with fail
     go_loopg [3] n4 (fun kq v3 wr => ∃ i : Nat,v3 = .int .i64 (i : Int) ∧ i + kq = n4 ∧ Aside0 (Below w.heap.size w wr) ∧ Aside0 (wr.heap[w.heap.size]? = some (Obj.cells (zC c B4 d4 B5 d5 B6 d6) 33 (0,0))))
     case atStart => exact ⟨0,rfl,by omega,HB,HZ⟩
     case round =>
      obtain ⟨i,rfl,hi,HB,HZ⟩:=hrel
      clear p0 p1 p2 p3 p4 p5 p6
      obtain ⟨p0,p1,p2,p3,p4,p5,p6⟩:=cells7m HZ.out
      rw [← HN4.out] at p4
      by_cases hlt : i < n4
      ·
       have hltX : i < c.f4.length:=by rw [← HN4.out];exact hlt
       have hd : decide ((i : Int) < (n4 : Int)) = true:=decide_eq_true (by omega)
       have hi0 : (0 : Int) ≤ (i : Int):=by omega
       have hi1 : (i : Int) < (n4 : Int):=by omega
       have hd2 : decide (i < n4) = true:=decide_eq_true (by omega)
       have hi2 : (i < n4) = True:=eq_true (by omega)
       have HLT:=aq hlt
       obtain ⟨K1,hK1⟩ : ∃ K1,i + 1 + K1 = n4 ∧ K1 < gk:=⟨gk - 1,by omega⟩
       have HGO:=aq hK1
       clear hK1
       obtain ⟨ad,hA,hcell⟩:=Kd.at_string (Kd.C_below HC4.out HB.out) (i : Int) (by omega) (Int.ofNat_lt.2 hltX)
       have hx : rdOf ByteArray.empty c.f4 (i : Int) = c.f4[i]:=by
        unfold rdOf
        rw [Int.toNat_natCast,List.getD_eq_getElem?_getD,List.getElem?_eq_getElem hltX]
        rfl
       rw [hx,Int.toNat_natCast] at hcell
       have hys:=HCQ.out.2.2.1.2 _ (List.getElem_mem hltX)
       obtain ⟨y,hy⟩ : ∃ y,c.f4[i] = y:=⟨_,rfl⟩
       rw [hy] at hcell hys
       subst hA
       have HYS:=aq hys
       clear hx hy hys hltX hi hlt
       go_wp2_with (first
        | (go_at_call 63;refine (class_any y (by have:=HYS.out;omega) _).mono ?_;rintro e w1 ⟨b1,rfl,hb1⟩;replace HB:=aq (below_step (by first|exact HB.out|exact below_alloc HB.out _) hb1);replace HZ:=aq (blk_below (by first|exact HZ.out|exact blk_alloc HZ.out _) hb1);clear hb1 p0 p1 p2 p3 p4 p5 p6;obtain ⟨p0,p1,p2,p3,p4,p5,p6⟩:=cells7m HZ.out;cases b1)
        | fail)
       ·
        exact HQ.out false _ (fun h => absurd h Bool.false_ne_true) HB.out
       ·
        go_roundg K1
        case measure => exact HGO.out.2
        case rel => exact ⟨i + 1,by rw [show wrap64 ((i : Int) + 1) = ((i + 1 : Nat) : Int) from wrap_nextQ i n4 HLT.out (by have h1:=HL4.out;have h2:=HN4.out;omega)],HGO.out.1,HB,HZ⟩
      ·
       have hd : decide ((i : Int) < (n4 : Int)) = false:=decide_eq_false (by omega)
       have hd2 : decide (i < n4) = false:=decide_eq_false (by omega)
       clear hi hlt
       obtain ⟨n5,hn⟩ : ∃ n,n = c.f5.length:=⟨_,rfl⟩
       have HN5:=aq hn
       obtain ⟨p0,p1,p2,p3,p4,p5,p6⟩:=cells7m HZ.out
       rw [← hn] at p5
       clear hn
       go_upto_block 2 with fail
       go_wp2_with fail
       go_loopg [4] n5 (fun kq v4 wr => ∃ i : Nat,v4 = .int .i64 (i : Int) ∧ i + kq = n5 ∧ Aside0 (Below w.heap.size w wr) ∧ Aside0 (wr.heap[w.heap.size]? = some (Obj.cells (zC c B4 d4 B5 d5 B6 d6) 33 (0,0))))
       case atStart => exact ⟨0,rfl,by omega,HB,HZ⟩
       case round =>
        obtain ⟨i,rfl,hi,HB,HZ⟩:=hrel
        clear p0 p1 p2 p3 p4 p5 p6
        obtain ⟨p0,p1,p2,p3,p4,p5,p6⟩:=cells7m HZ.out
        rw [← HN5.out] at p5
        by_cases hlt : i < n5
        ·
         have hltX : i < c.f5.length:=by rw [← HN5.out];exact hlt
         have hd : decide ((i : Int) < (n5 : Int)) = true:=decide_eq_true (by omega)
         have hi0 : (0 : Int) ≤ (i : Int):=by omega
         have hi1 : (i : Int) < (n5 : Int):=by omega
         have hd2 : decide (i < n5) = true:=decide_eq_true (by omega)
         have hi2 : (i < n5) = True:=eq_true (by omega)
         have HLT:=aq hlt
         obtain ⟨K1,hK1⟩ : ∃ K1,i + 1 + K1 = n5 ∧ K1 < gk:=⟨gk - 1,by omega⟩
         have HGO:=aq hK1
         clear hK1
         obtain ⟨ad,hA,h0,h1,h2,h3⟩:=at_T103 (Kd.C_below HC5F.out HB.out) (i : Int) (by omega) (Int.ofNat_lt.2 hltX)
         have hx : rd_T103 c.f5 (i : Int) = c.f5[i]:=by
          unfold rd_T103
          rw [Int.toNat_natCast,List.getD_eq_getElem?_getD,List.getElem?_eq_getElem hltX]
          rfl
         rw [hx,Int.toNat_natCast] at h0 h1 h2 h3
         have hys:=HCQ.out.2.2.2.1.2 _ (List.getElem_mem hltX)
         obtain ⟨f,hy⟩ : ∃ y,c.f5[i] = y:=⟨_,rfl⟩
         rw [hy] at h0 h1 h2 h3 hys
         rw [hA] at p5
         clear hA
         have HFS : Aside0 (f.f0.size ≤ 140737488351232 ∧ f.f1.f1.size ≤ 140737488351232):=⟨hys.1,hys.2⟩
         obtain ⟨q,hq⟩ : ∃ q,q = wr.heap.size:=⟨_,rfl⟩
         have HY : Aside0 ((wr.alloc (Obj.cells #[.string f.f0,.int .i64 f.f1.f0,.string f.f1.f1,.bool f.f2] 103)).heap[q]? = some (Obj.cells #[.string f.f0,.int .i64 f.f1.f0,.string f.f1.f1,.bool f.f2] 103 (0,0))):=⟨by rw [hq];exact World.alloc_heap_new _ _⟩
         have HB2:=aq (below_alloc HB.out (Obj.cells #[.string f.f0,.int .i64 f.f1.f0,.string f.f1.f1,.bool f.f2] 103))
         have HZ2:=aq (blk_alloc HZ.out (Obj.cells #[.string f.f0,.int .i64 f.f1.f0,.string f.f1.f1,.bool f.f2] 103))
         clear hx hy hys hltX hi hlt
         go_upto_region 14 with fail
         rw [← hq]
         generalize wr.alloc (Obj.cells #[.string f.f0,.int .i64 f.f1.f0,.string f.f1.f1,.bool f.f2] 103) = W2 at HY HB2 HZ2 ⊢
         clear p0 p1 p2 p3 p4 p5 p6 h0 h1 h2 h3 hq
         replace HB:=HB2
         replace HZ:=HZ2
         clear HB2 HZ2
         obtain ⟨p0,p1,p2,p3,p4,p5,p6⟩:=cells7m HZ.out
         obtain ⟨r0,r1,r2,r3⟩:=cells4m HY.out
         go_cut [94] (fun v94 wc => ∃ b,v94 = .bool b ∧ Aside0 (Below w.heap.size w wc) ∧ Aside0 (wc.heap[w.heap.size]? = some (Obj.cells (zC c B4 d4 B5 d5 B6 d6) 33 (0,0))) ∧ Aside0 (wc.heap[q]? = some (Obj.cells #[.string f.f0,.int .i64 f.f1.f0,.string f.f1.f1,.bool f.f2] 103 (0,0))))
         case first =>
          go_wp2_with (first
           | (go_at_call 64;refine (name_any f.f0 (by have:=HFS.out;omega) _).mono ?_;rintro e w1 ⟨b1,rfl,hb1⟩;replace HB:=aq (below_step (by first|exact HB.out|exact below_alloc HB.out _) hb1);replace HZ:=aq (blk_below (by first|exact HZ.out|exact blk_alloc HZ.out _) hb1);replace HY:=aq (blk_below (by first|exact HY.out|exact blk_alloc HY.out _) hb1);clear hb1 p0 p1 p2 p3 p4 p5 p6 r0 r1 r2 r3;obtain ⟨p0,p1,p2,p3,p4,p5,p6⟩:=cells7m HZ.out;obtain ⟨r0,r1,r2,r3⟩:=cells4m HY.out)
           | (go_at_call 65;refine (rtype_any f.f1.f0 f.f1.f1 (by have:=HFS.out;omega) _).mono ?_;rintro e w1 ⟨b1,rfl,hb1⟩;replace HB:=aq (below_step (by first|exact HB.out|exact below_alloc HB.out _) hb1);replace HZ:=aq (blk_below (by first|exact HZ.out|exact blk_alloc HZ.out _) hb1);replace HY:=aq (blk_below (by first|exact HY.out|exact blk_alloc HY.out _) hb1);clear hb1 p0 p1 p2 p3 p4 p5 p6 r0 r1 r2 r3;obtain ⟨p0,p1,p2,p3,p4,p5,p6⟩:=cells7m HZ.out;obtain ⟨r0,r1,r2,r3⟩:=cells4m HY.out)
           | fail)
          all_goals (go_meet;case rel => exact ⟨_,rfl,HB,HZ,HY⟩)
         case rest =>
          obtain ⟨b,rfl,HB,HZ,HY⟩:=hcut
          cases b with
          | true =>
           go_wp2_with fail
           exact HQ.out false _ (fun h => absurd h Bool.false_ne_true) HB.out
          | false =>
           go_wp2_with fail
           go_roundg K1
           case measure => exact HGO.out.2
           case rel => exact ⟨i + 1,by rw [show wrap64 ((i : Int) + 1) = ((i + 1 : Nat) : Int) from wrap_nextQ i n5 HLT.out (by have h1:=HL5.out;have h2:=HN5.out;omega)],HGO.out.1,HB,HZ⟩
        ·
         have hd : decide ((i : Int) < (n5 : Int)) = false:=decide_eq_false (by omega)
         have hd2 : decide (i < n5) = false:=decide_eq_false (by omega)
         clear hi hlt
         obtain ⟨n6,hn⟩ : ∃ n,n = c.f6.length:=⟨_,rfl⟩
         have HN6:=aq hn
         obtain ⟨p0,p1,p2,p3,p4,p5,p6⟩:=cells7m HZ.out
         rw [← hn] at p6
         clear hn
         go_upto_block 4 with fail
         go_wp2_with fail
         go_loopg [6] n6 (fun kq v6 wr => ∃ i : Nat,v6 = .int .i64 (i : Int) ∧ i + kq = n6 ∧ Aside0 (∀ y ∈ c.f6.take i,FitsM y) ∧ Aside0 (Below w.heap.size w wr) ∧ Aside0 (wr.heap[w.heap.size]? = some (Obj.cells (zC c B4 d4 B5 d5 B6 d6) 33 (0,0))))
         case atStart => exact ⟨0,rfl,by omega,⟨fun y h => by cases h⟩,HB,HZ⟩
         case round =>
          obtain ⟨i,rfl,hi,HT,HB,HZ⟩:=hrel
          clear p0 p1 p2 p3 p4 p5 p6
          obtain ⟨p0,p1,p2,p3,p4,p5,p6⟩:=cells7m HZ.out
          rw [← HN6.out] at p6
          by_cases hlt : i < n6
          ·
           have hltX : i < c.f6.length:=by rw [← HN6.out];exact hlt
           have hd : decide ((i : Int) < (n6 : Int)) = true:=decide_eq_true (by omega)
           have hi0 : (0 : Int) ≤ (i : Int):=by omega
           have hi1 : (i : Int) < (n6 : Int):=by omega
           have hd2 : decide (i < n6) = true:=decide_eq_true (by omega)
           have hi2 : (i < n6) = True:=eq_true (by omega)
           have HLT:=aq hlt
           obtain ⟨K1,hK1⟩ : ∃ K1,i + 1 + K1 = n6 ∧ K1 < gk:=⟨gk - 1,by omega⟩
           have HGO:=aq hK1
           clear hK1
           obtain ⟨ad,D5,e5,hA,h0,h1,h2,h3,h4,h5,hl5,hC5⟩:=at_T37 (Kd.C_below HC6.out HB.out) (i : Int) (by omega) (Int.ofNat_lt.2 hltX)
           have hx : rd_T37 c.f6 (i : Int) = c.f6[i]:=by
            unfold rd_T37
            rw [Int.toNat_natCast,List.getD_eq_getElem?_getD,List.getElem?_eq_getElem hltX]
            rfl
           rw [hx,Int.toNat_natCast] at h0 h1 h2 h3 h4 h5
           rw [hx] at hl5 hC5
           have hys:=HCQ.out.2.2.2.2.2 _ (List.getElem_mem hltX)
           obtain ⟨m,hy⟩ : ∃ y,c.f6[i] = y:=⟨_,rfl⟩
           rw [hy] at h0 h1 h2 h3 h4 h5 hl5 hC5 hys
           rw [hA] at p6
           clear hA
           have HNX:=aq (fun hp => ok_next (p:=FitsM) HT.out hltX hy hp)
           have HMQ:=aq hys
           have HC5:=aq (Kd.C_below hC5 (below_alloc (Below.refl wr.heap.size wr) (Obj.cells (zH m D5 e5) 37)))
           obtain ⟨q,hq⟩ : ∃ q,q = wr.heap.size:=⟨_,rfl⟩
           have HY : Aside0 ((wr.alloc (Obj.cells (zH m D5 e5) 37)).heap[q]? = some (Obj.cells (zH m D5 e5) 37 (0,0))):=⟨by rw [hq];exact World.alloc_heap_new _ _⟩
           have HB2:=aq (below_alloc HB.out (Obj.cells (zH m D5 e5) 37))
           have HZ2:=aq (blk_alloc HZ.out (Obj.cells (zH m D5 e5) 37))
           clear hx hy hys hltX hi hlt hl5 hC5 HT
           go_upto_region 20 with fail
           rw [← hq]
           generalize wr.alloc (Obj.cells (zH m D5 e5) 37) = W2 at HY HB2 HZ2 HC5 ⊢
           clear p0 p1 p2 p3 p4 p5 p6 h0 h1 h2 h3 h4 h5 hq
           replace HB:=HB2
           replace HZ:=HZ2
           clear HB2 HZ2
           obtain ⟨p0,p1,p2,p3,p4,p5,p6⟩:=cells7m HZ.out
           obtain ⟨r0,r1,r2,r3,r4,r5⟩:=cells6m HY.out
           go_cut [106,127] (fun v106 v127 wc => ∃ b,v127 = .bool b ∧ Aside0 (b = false → FitsM m) ∧ Aside0 (Below w.heap.size w wc) ∧ Aside0 (wc.heap[w.heap.size]? = some (Obj.cells (zC c B4 d4 B5 d5 B6 d6) 33 (0,0))) ∧ Aside0 (wc.heap[q]? = some (Obj.cells (zH m D5 e5) 37 (0,0))))
           case first =>
            go_wp2_with (first
             | (go_at_call 66;refine (rmethod_any m D5 e5 HMQ.out _ HC5.out).mono ?_;rintro e w1 ⟨b1,rfl,hf,hb1⟩;replace HB:=aq (below_step (by first|exact HB.out|exact below_alloc HB.out _) hb1);replace HZ:=aq (blk_below (by first|exact HZ.out|exact blk_alloc HZ.out _) hb1);replace HY:=aq (blk_below (by first|exact HY.out|exact blk_alloc HY.out _) hb1);clear hb1 p0 p1 p2 p3 p4 p5 p6 r0 r1 r2 r3 r4 r5;obtain ⟨p0,p1,p2,p3,p4,p5,p6⟩:=cells7m HZ.out;obtain ⟨r0,r1,r2,r3,r4,r5⟩:=cells6m HY.out;cases b1;all_goals (first|(have HW_:=aq (hf rfl);clear hf)|clear hf))
             | fail)
            all_goals (go_meet;case rel => exact ⟨_,rfl,⟨by first|exact fun h => absurd h (by decide)|exact fun _ => (show Aside0 (FitsM m) from (by assumption)).out⟩,HB,HZ,HY⟩)
           case rest =>
            obtain ⟨b,rfl,HO,HB,HZ,HY⟩:=hcut
            cases b with
            | true =>
             go_wp2_with fail
             exact HQ.out false _ (fun h => absurd h Bool.false_ne_true) HB.out
            | false =>
             go_wp2_with fail
             go_roundg K1
             case measure => exact HGO.out.2
             case rel => exact ⟨i + 1,by rw [show wrap64 ((i : Int) + 1) = ((i + 1 : Nat) : Int) from wrap_nextQ i n6 HLT.out (by have h1:=HL6.out;have h2:=HN6.out;omega)],HGO.out.1,⟨HNX.out (HO.out (by first|rfl|trivial))⟩,HB,HZ⟩
          ·
           have hd : decide ((i : Int) < (n6 : Int)) = false:=decide_eq_false (by omega)
           have hd2 : decide (i < n6) = false:=decide_eq_false (by omega)
           have HFO:=aq (ok_end HT.out (by rw [← HN6.out];omega))
           clear HT
           clear hi hlt
           go_wp2_with fail
           all_goals exact HQ.out _ _ (fun _ => HFO.out) HB.out
theorem rclass_any (c : S33) (B4 B5 B6 : Option Addr) (d4 d5 d6 : Nat) (hc : Op.QClass c) (w : World) (hC4 : Kd.C Kd.string w B4 c.f4.length c.f4) (hC5 : Kd.C k103 w B5 c.f5.length c.f5) (hC6 : Kd.C k37 w B6 c.f6.length c.f6) :
  Calls Try.prog 41 #[.agg (zC c B4 d4 B5 d5 B6 d6)] w fun e w' => ∃ b,e = .returned (.bool b) ∧ (b = true → ∀ m ∈ c.f6,FitsM m) ∧ Below w.heap.size w w':=rclass_q c B4 B5 B6 d4 d5 d6 hc w hC4 hC5 hC6 _ ⟨fun b _ h hb => ⟨b,rfl,h,hb⟩⟩
theorem wraps_j (j n : Nat) (h : j + 1 < n) (hn : n ≤ 140737488351232) : (IntKind.i64.wrap (j : Int) = (j : Int)) ∧ (wrap64 (j : Int) = (j : Int)) ∧ (IntKind.i64.wrap (((j + 1 : Nat) : Int) - 1) = (j : Int)) ∧ (IntKind.i64.wrap (((j : Int) + 1) - 1) = (j : Int)) ∧ (wrap64 (((j + 1 : Nat) : Int) - 1) = (j : Int)) ∧ ((0 ≤ (j : Int)) = True) ∧ (((j : Int) < (n : Int)) = True) ∧ ((0 ≤ ((j + 1 : Nat) : Int)) = True) ∧ ((((j + 1 : Nat) : Int) < (n : Int)) = True) ∧ ((0 ≤ (j : Int) + 1) = True) ∧ (((j : Int) + 1 < (n : Int)) = True) ∧ (((j : Int) + 1).toNat = j + 1) ∧ (decide ((0 : Int) < ((j + 1 : Nat) : Int)) = true) ∧ ((j < n) = True) ∧ ((j + 1 < n) = True) ∧ (decide (((j + 1 : Nat) : Int) < (n : Int)) = true) ∧ (decide (j + 1 < n) = true) := by
 refine ⟨?_,?_,?_,?_,?_,?_,?_,?_,?_,?_,?_,?_,?_,?_,?_,?_,?_⟩
 ·
  exact IntWalk.i64_in _ (by omega)
 ·
  unfold wrap64
  omega
 ·
  rw [IntWalk.i64_in _ (by omega)]
  omega
 ·
  rw [IntWalk.i64_in _ (by omega)]
  omega
 ·
  unfold wrap64
  omega
 ·
  exact eq_true (by omega)
 ·
  exact eq_true (by omega)
 ·
  exact eq_true (by omega)
 ·
  exact eq_true (by omega)
 ·
  exact eq_true (by omega)
 ·
  exact eq_true (by omega)
 ·
  omega
 ·
  exact decide_eq_true (by omega)
 ·
  exact eq_true (by omega)
 ·
  exact eq_true (by omega)
 ·
  exact decide_eq_true (by omega)
 ·
  exact decide_eq_true (by omega)
theorem rlong_q (A0 : Option Addr) (c0 : Nat) (l0 : List S33) (A1 : Option Addr) (c1 : Nat) (l1 : List ByteArray) (a2 a3 a4 : ByteArray) (hl0 : l0.length ≤ 140737488351232) (hl1 : l1.length ≤ 140737488351232) (w : World) (hC0 : Kd.C k33 w A0 l0.length l0) (hC1 : Kd.C Kd.string w A1 l1.length l1) (Q : Ending → World → Prop) (HQ : Aside0 (∀ b w', Below w.heap.size w w' → Q (.returned (.bool b)) w')) :
  Calls Try.prog 40 #[.agg (pG A0 l0 c0 A1 l1 c1 a2 a3 a4)] w Q:=by
 have HC0:=aq hC0
 have HC1:=aq hC1
 have HLc:=aq hl0
 have HLn:=aq hl1
 clear hC0 hC1 hl0 hl1
 have HB:=aq (below_alloc (Below.refl w.heap.size w) (Obj.cells (pG A0 l0 c0 A1 l1 c1 a2 a3 a4) 27))
 have h0:=World.alloc_heap_new w (Obj.cells (pG A0 l0 c0 A1 l1 c1 a2 a3 a4) 27)
 obtain ⟨W,hW⟩ : ∃ W,w.alloc (Obj.cells (pG A0 l0 c0 A1 l1 c1 a2 a3 a4) 27) = W:=⟨_,rfl⟩
 rw [hW] at HB h0
 have HW:=aq hW
 have HZ:=aq h0
 clear h0 hW
 go_enter Try.func40,Try.ntmps40
 go_upto_region 1 with fail
 rw [HW.out]
 obtain ⟨p0,p1,p2,p3,p4⟩:=cells5 HZ.out
 go_cut [15] (fun v15 wc => ∃ b,v15 = .bool b ∧ Aside0 (Below w.heap.size w wc) ∧ Aside0 (wc.heap[w.heap.size]? = some (Obj.cells (pG A0 l0 c0 A1 l1 c1 a2 a3 a4) 27 (0,0))))
 case first =>
  go_wp2_with fail
  all_goals (go_meet;case rel => exact ⟨_,rfl,HB,HZ⟩)
 case rest =>
  obtain ⟨b,rfl,HB,HZ⟩:=hcut
  cases b with
  | true =>
   go_wp2_with fail
   exact HQ.out true _ HB.out
  | false =>
   obtain ⟨nc,hn⟩ : ∃ n,n = l0.length:=⟨_,rfl⟩
   have HNc:=aq hn
   have HNLc : Aside0 (nc ≤ 140737488351232):=⟨by have h1:=HLc.out;omega⟩
   obtain ⟨p0,p1,p2,p3,p4⟩:=cells5 HZ.out
   rw [← hn] at p0
   clear hn
   go_upto_block 0 with fail
   go_wp2_with fail
   go_loopg [3] nc (fun kq v3 wr => ∃ i : Nat,v3 = .int .i64 (i : Int) ∧ i + kq = nc ∧ Aside0 (Below w.heap.size w wr) ∧ Aside0 (wr.heap[w.heap.size]? = some (Obj.cells (pG A0 l0 c0 A1 l1 c1 a2 a3 a4) 27 (0,0))))
   case atStart => exact ⟨0,rfl,by omega,HB,HZ⟩
   case round =>
    obtain ⟨i,rfl,hi,HB,HZ⟩:=hrel
    clear p0 p1 p2 p3 p4
    obtain ⟨p0,p1,p2,p3,p4⟩:=cells5 HZ.out
    rw [← HNc.out] at p0
    by_cases hlt : i < nc
    ·
     have hltX : i < l0.length:=by rw [← HNc.out];exact hlt
     have HLT:=aq hlt
     obtain ⟨K1,hK1⟩ : ∃ K1,i + 1 + K1 = nc ∧ K1 < gk:=⟨gk - 1,by omega⟩
     have HGO:=aq hK1
     clear hK1
     have hd : decide ((i : Int) < (nc : Int)) = true:=decide_eq_true (by omega)
     have hi0 : (0 : Int) ≤ (i : Int):=by omega
     have hi1 : (i : Int) < (nc : Int):=by omega
     have hd2 : decide (i < nc) = true:=decide_eq_true (by omega)
     have hi2 : (i < nc) = True:=eq_true (by omega)
     obtain ⟨ad,B4,d4,B5,d5,B6,d6,hA,h0,h1,h2,h3,h4,h5,h6,_⟩:=at_T33 (Kd.C_below HC0.out HB.out) (i : Int) (by omega) (Int.ofNat_lt.2 hltX)
     have hx : rd_T33 l0 (i : Int) = l0[i]:=by
      unfold rd_T33
      rw [Int.toNat_natCast,List.getD_eq_getElem?_getD,List.getElem?_eq_getElem (by assumption)]
      rfl
     rw [hx,Int.toNat_natCast] at h0 h1 h2 h3 h4 h5 h6
     obtain ⟨c,hy⟩ : ∃ y,l0[i] = y:=⟨_,rfl⟩
     rw [hy] at h0 h1 h2 h3 h4 h5 h6
     rw [hA] at p0
     clear hA
     obtain ⟨q,hq⟩ : ∃ q,q = wr.heap.size:=⟨_,rfl⟩
     have HY : Aside0 ((wr.alloc (Obj.cells (zC c B4 d4 B5 d5 B6 d6) 33)).heap[q]? = some (Obj.cells (zC c B4 d4 B5 d5 B6 d6) 33 (0,0))):=⟨by rw [hq];exact World.alloc_heap_new _ _⟩
     have HB2:=aq (below_alloc HB.out (Obj.cells (zC c B4 d4 B5 d5 B6 d6) 33))
     have HZ2:=aq (blk_alloc HZ.out (Obj.cells (zC c B4 d4 B5 d5 B6 d6) 33))
     clear hx hy hltX hi hlt
     go_upto_region 7 with fail
     rw [← hq]
     generalize wr.alloc (Obj.cells (zC c B4 d4 B5 d5 B6 d6) 33) = W2 at HY HB2 HZ2 ⊢
     clear p0 p1 p2 p3 p4 h0 h1 h2 h3 h4 h5 h6 hq
     replace HB:=HB2
     replace HZ:=HZ2
     clear HB2 HZ2
     obtain ⟨p0,p1,p2,p3,p4⟩:=cells5 HZ.out
     obtain ⟨r0,r1,r2,r3,r4,r5,r6⟩:=cells7m HY.out
     go_cut [43] (fun v43 wc => ∃ b,v43 = .bool b ∧ Aside0 (Below w.heap.size w wc) ∧ Aside0 (wc.heap[w.heap.size]? = some (Obj.cells (pG A0 l0 c0 A1 l1 c1 a2 a3 a4) 27 (0,0))) ∧ Aside0 (wc.heap[q]? = some (Obj.cells (zC c B4 d4 B5 d5 B6 d6) 33 (0,0))))
     case first =>
      go_wp2_with fail
      all_goals (go_meet;case rel => exact ⟨_,rfl,HB,HZ,HY⟩)
     case rest =>
      obtain ⟨b,rfl,HB,HZ,HY⟩:=hcut
      cases b with
      | true =>
       go_wp2_with fail
       exact HQ.out true _ HB.out
      | false =>
       go_wp2_with fail
       go_roundg K1
       case measure => exact HGO.out.2
       case rel => exact ⟨i + 1,by rw [show wrap64 ((i : Int) + 1) = ((i + 1 : Nat) : Int) from wrap_nextQ i nc HLT.out HNLc.out],HGO.out.1,HB,HZ⟩
    ·
     have hd : decide ((i : Int) < (nc : Int)) = false:=decide_eq_false (by omega)
     have hd2 : decide (i < nc) = false:=decide_eq_false (by omega)
     clear hi hlt
     obtain ⟨nn,hn⟩ : ∃ n,n = l1.length:=⟨_,rfl⟩
     have HNn:=aq hn
     have HNLn : Aside0 (nn ≤ 140737488351232):=⟨by have h1:=HLn.out;omega⟩
     obtain ⟨p0,p1,p2,p3,p4⟩:=cells5 HZ.out
     rw [← hn] at p1
     clear hn
     go_upto_block 2 with fail
     go_wp2_with fail
     go_loopg [5] nn (fun kq v5 wr => ∃ i : Nat,v5 = .int .i64 (i : Int) ∧ i + kq = nn ∧ Aside0 (Below w.heap.size w wr) ∧ Aside0 (wr.heap[w.heap.size]? = some (Obj.cells (pG A0 l0 c0 A1 l1 c1 a2 a3 a4) 27 (0,0))))
     case atStart => exact ⟨0,rfl,by omega,HB,HZ⟩
     case round =>
      obtain ⟨i,rfl,hi,HB,HZ⟩:=hrel
      clear p0 p1 p2 p3 p4
      obtain ⟨p0,p1,p2,p3,p4⟩:=cells5 HZ.out
      rw [← HNn.out] at p1
      by_cases hlt : i < nn
      ·
       have hltX : i < l1.length:=by rw [← HNn.out];exact hlt
       have HLT:=aq hlt
       obtain ⟨K1,hK1⟩ : ∃ K1,i + 1 + K1 = nn ∧ K1 < gk:=⟨gk - 1,by omega⟩
       have HGO:=aq hK1
       clear hK1
       have hd : decide ((i : Int) < (nn : Int)) = true:=decide_eq_true (by omega)
       have hi0 : (0 : Int) ≤ (i : Int):=by omega
       have hi1 : (i : Int) < (nn : Int):=by omega
       have hd2 : decide (i < nn) = true:=decide_eq_true (by omega)
       have hi2 : (i < nn) = True:=eq_true (by omega)
       obtain ⟨ad,hA,hcell⟩:=Kd.at_string (Kd.C_below HC1.out HB.out) (i : Int) (by omega) (Int.ofNat_lt.2 hltX)
       obtain ⟨y,hy⟩ : ∃ y,rdOf ByteArray.empty l1 (i : Int) = y:=⟨_,rfl⟩
       rw [hy,Int.toNat_natCast] at hcell
       subst hA
       clear hy hltX hi hlt
       by_cases hs : 64 < y.size
       ·
        have hd2 : decide ((y.size : Int) > 64) = true:=decide_eq_true (by omega)
        clear hs
        go_wp2_with fail
        exact HQ.out true _ HB.out
       ·
        have hd2 : decide ((y.size : Int) > 64) = false:=decide_eq_false (by omega)
        clear hs
        go_wp2_with fail
        go_roundg K1
        case measure => exact HGO.out.2
        case rel => exact ⟨i + 1,by rw [show wrap64 ((i : Int) + 1) = ((i + 1 : Nat) : Int) from wrap_nextQ i nn HLT.out HNLn.out],HGO.out.1,HB,HZ⟩
      ·
       have hd : decide ((i : Int) < (nn : Int)) = false:=decide_eq_false (by omega)
       have hd2 : decide (i < nn) = false:=decide_eq_false (by omega)
       clear hi hlt
       go_wp2_with fail
       exact HQ.out false _ HB.out
theorem rlong_any (A0 : Option Addr) (c0 : Nat) (l0 : List S33) (A1 : Option Addr) (c1 : Nat) (l1 : List ByteArray) (a2 a3 a4 : ByteArray) (hl0 : l0.length ≤ 140737488351232) (hl1 : l1.length ≤ 140737488351232) (w : World) (hC0 : Kd.C k33 w A0 l0.length l0) (hC1 : Kd.C Kd.string w A1 l1.length l1) : Calls Try.prog 40 #[.agg (pG A0 l0 c0 A1 l1 c1 a2 a3 a4)] w fun e w' => ∃ b, e = .returned (.bool b) ∧ Below w.heap.size w w' := rlong_q A0 c0 l0 A1 c1 l1 a2 a3 a4 hl0 hl1 w hC0 hC1 _ ⟨fun b _ hb => ⟨b, rfl, hb⟩⟩
theorem rordered_q (c : S33) (B4 B5 B6 : Option Addr) (d4 d5 d6 : Nat) (hc : Op.QClass c) (w : World) (hC4 : Kd.C Kd.string w B4 c.f4.length c.f4) (hC5 : Kd.C k103 w B5 c.f5.length c.f5) (hC6 : Kd.C k37 w B6 c.f6.length c.f6) (Q : Ending → World → Prop) (HQ : Aside0 (∀ b w', Below w.heap.size w w' → Q (.returned (.bool b)) w')) :
  Calls Try.prog 67 #[.agg (zC c B4 d4 B5 d5 B6 d6)] w Q:=by
 have HC4:=aq hC4
 have HC5F:=aq hC5
 have HC6:=aq hC6
 have HL4 : Aside0 (c.f4.length ≤ 140737488351232):=⟨hc.2.2.1.1⟩
 have HL5 : Aside0 (c.f5.length ≤ 140737488351232):=⟨hc.2.2.2.1.1⟩
 have HL6 : Aside0 (c.f6.length ≤ 140737488351232):=⟨hc.2.2.2.2.1⟩
 clear hC4 hC5 hC6 hc
 have HB:=aq (below_alloc (Below.refl w.heap.size w) (Obj.cells (zC c B4 d4 B5 d5 B6 d6) 33))
 have h0:=World.alloc_heap_new w (Obj.cells (zC c B4 d4 B5 d5 B6 d6) 33)
 obtain ⟨W,hW⟩ : ∃ W,w.alloc (Obj.cells (zC c B4 d4 B5 d5 B6 d6) 33) = W:=⟨_,rfl⟩
 rw [hW] at HB h0
 have HW:=aq hW
 have HZ:=aq h0
 clear h0 hW
 go_enter Try.func67,Try.ntmps67
 go_upto_region 1 with fail
 rw [HW.out]
 obtain ⟨p0,p1,p2,p3,p4,p5,p6⟩:=cells7m HZ.out
 obtain ⟨n4,hn⟩ : ∃ n,n = c.f4.length:=⟨_,rfl⟩
 have HN4:=aq hn
 have HNL4 : Aside0 (n4 ≤ 140737488351232):=⟨by have h1:=HL4.out;omega⟩
 obtain ⟨p0,p1,p2,p3,p4,p5,p6⟩:=cells7m HZ.out
 rw [← hn] at p4
 clear hn
 go_upto_block 0 with fail
 go_wp2_with fail
 go_loopg [3] n4 (fun kq v3 wr => ∃ i : Nat,v3 = .int .i64 (i : Int) ∧ 1 ≤ i ∧ i + kq = n4 + 1 ∧ Aside0 (Below w.heap.size w wr) ∧ Aside0 (wr.heap[w.heap.size]? = some (Obj.cells (zC c B4 d4 B5 d5 B6 d6) 33 (0,0))))
 case atStart => exact ⟨1,rfl,Nat.le_refl 1,by omega,HB,HZ⟩
 case round =>
  obtain ⟨i,rfl,h1i,hi,HB,HZ⟩:=hrel
  clear p0 p1 p2 p3 p4 p5 p6
  obtain ⟨p0,p1,p2,p3,p4,p5,p6⟩:=cells7m HZ.out
  rw [← HN4.out] at p4
  by_cases hlt : i < n4
  ·
   have hltX : i < c.f4.length:=by rw [← HN4.out];exact hlt
   have HLT:=aq hlt
   obtain ⟨K1,hK1⟩ : ∃ K1,i + 1 + K1 = n4 + 1 ∧ K1 < gk:=⟨gk - 1,by omega⟩
   have HGO:=aq hK1
   clear hK1
   obtain ⟨j,rfl⟩ : ∃ j,i = j + 1:=⟨i - 1,by omega⟩
   have hjX : j < c.f4.length:=by omega
   obtain ⟨ad,hA,h0⟩:=Kd.at_string (Kd.C_below HC4.out HB.out) (j : Int) (by omega) (Int.ofNat_lt.2 hjX)
   obtain ⟨ad',hA',h1⟩:=Kd.at_string (Kd.C_below HC4.out HB.out) ((j + 1 : Nat) : Int) (by omega) (Int.ofNat_lt.2 hltX)
   subst hA
   obtain rfl:=Option.some.inj hA'
   obtain ⟨s0,hs0⟩ : ∃ s,rdOf ByteArray.empty c.f4 (j : Int) = s:=⟨_,rfl⟩
   obtain ⟨s1,hs1⟩ : ∃ s,rdOf ByteArray.empty c.f4 ((j + 1 : Nat) : Int) = s:=⟨_,rfl⟩
   rw [hs0,Int.toNat_natCast] at h0
   rw [hs1,Int.toNat_natCast] at h1
   have h1b : wr.cell? ⟨ad.block,ad.off + (j + 1),none⟩ = some (.string s1):=h1
   have HLX:=HL4.out
   have HNX:=HN4.out
   obtain ⟨w0,w4,w1,w2,w3,b1,b2,b3,b4,b8,b9,b10,b5,b6,b7,hd,hd2⟩:=wraps_j j n4 hlt HNL4.out
   clear hs0 hs1 hA' hltX hjX hi hlt h1i HLX HNX
   cases hb : Op.bytesLess s0.toList s1.toList with
   | true =>
    go_wp2_with fail
    go_quiet (fail)
    go_wp2_with fail
    go_roundg K1
    case measure => exact HGO.out.2
    case rel => exact ⟨j + 1 + 1,congrArg (Value.int .i64) (wrap_nextQ (j + 1) n4 HLT.out HNL4.out),Nat.le_add_left 1 _,HGO.out.1,by first|exact ⟨pw_below_drewN HB.out _⟩|exact ⟨below_drew1 HB.out⟩|exact HB,by first|exact ⟨blk_below HZ.out (pw_below_drewN (Below.refl _ _) _)⟩|exact ⟨blk_below HZ.out (below_drew1 (Below.refl _ _))⟩|exact HZ⟩
   | false =>
    go_wp2_with fail
    go_quiet (fail)
    go_wp2_with fail
    exact HQ.out false _ (by first|exact pw_below_drewN HB.out _|exact below_drew1 HB.out|exact HB.out)
  ·
   have hd : decide ((i : Int) < (n4 : Int)) = false:=decide_eq_false (by omega)
   have hd2 : decide (i < n4) = false:=decide_eq_false (by omega)
   clear hi hlt
   obtain ⟨n5,hn⟩ : ∃ n,n = c.f5.length:=⟨_,rfl⟩
   have HN5:=aq hn
   have HNL5 : Aside0 (n5 ≤ 140737488351232):=⟨by have h1:=HL5.out;omega⟩
   obtain ⟨p0,p1,p2,p3,p4,p5,p6⟩:=cells7m HZ.out
   rw [← hn] at p5
   clear hn
   go_upto_block 2 with fail
   go_wp2_with fail
   go_loopg [4] n5 (fun kq v4 wr => ∃ i : Nat,v4 = .int .i64 (i : Int) ∧ 1 ≤ i ∧ i + kq = n5 + 1 ∧ Aside0 (Below w.heap.size w wr) ∧ Aside0 (wr.heap[w.heap.size]? = some (Obj.cells (zC c B4 d4 B5 d5 B6 d6) 33 (0,0))))
   case atStart => exact ⟨1,rfl,Nat.le_refl 1,by omega,HB,HZ⟩
   case round =>
    obtain ⟨i,rfl,h1i,hi,HB,HZ⟩:=hrel
    clear p0 p1 p2 p3 p4 p5 p6
    obtain ⟨p0,p1,p2,p3,p4,p5,p6⟩:=cells7m HZ.out
    rw [← HN5.out] at p5
    by_cases hlt : i < n5
    ·
     have hltX : i < c.f5.length:=by rw [← HN5.out];exact hlt
     have HLT:=aq hlt
     obtain ⟨K1,hK1⟩ : ∃ K1,i + 1 + K1 = n5 + 1 ∧ K1 < gk:=⟨gk - 1,by omega⟩
     have HGO:=aq hK1
     clear hK1
     obtain ⟨j,rfl⟩ : ∃ j,i = j + 1:=⟨i - 1,by omega⟩
     have hjX : j < c.f5.length:=by omega
     obtain ⟨ad,hA,h0,_⟩:=at_T103 (Kd.C_below HC5F.out HB.out) (j : Int) (by omega) (Int.ofNat_lt.2 hjX)
     obtain ⟨ad',hA',h1,_⟩:=at_T103 (Kd.C_below HC5F.out HB.out) ((j + 1 : Nat) : Int) (by omega) (Int.ofNat_lt.2 hltX)
     subst hA
     obtain rfl:=Option.some.inj hA'
     obtain ⟨s0,hs0⟩ : ∃ s,(rd_T103 c.f5 (j : Int)).f0 = s:=⟨_,rfl⟩
     obtain ⟨s1,hs1⟩ : ∃ s,(rd_T103 c.f5 ((j + 1 : Nat) : Int)).f0 = s:=⟨_,rfl⟩
     rw [hs0,Int.toNat_natCast] at h0
     rw [hs1,Int.toNat_natCast] at h1
     have HLX:=HL5.out
     have HNX:=HN5.out
     obtain ⟨w0,w4,w1,w2,w3,b1,b2,b3,b4,b8,b9,b10,b5,b6,b7,hd,hd2⟩:=wraps_j j n5 hlt HNL5.out
     clear hs0 hs1 hA' hltX hjX hi hlt h1i HLX HNX
     cases hb : Op.bytesLess s0.toList s1.toList with
     | true =>
      go_wp2_with fail
      go_quiet (fail)
      go_wp2_with fail
      go_roundg K1
      case measure => exact HGO.out.2
      case rel => exact ⟨j + 1 + 1,congrArg (Value.int .i64) (wrap_nextQ (j + 1) n5 HLT.out HNL5.out),Nat.le_add_left 1 _,HGO.out.1,by first|exact ⟨pw_below_drewN HB.out _⟩|exact ⟨below_drew1 HB.out⟩|exact HB,by first|exact ⟨blk_below HZ.out (pw_below_drewN (Below.refl _ _) _)⟩|exact ⟨blk_below HZ.out (below_drew1 (Below.refl _ _))⟩|exact HZ⟩
     | false =>
      go_wp2_with fail
      go_quiet (fail)
      go_wp2_with fail
      exact HQ.out false _ (by first|exact pw_below_drewN HB.out _|exact below_drew1 HB.out|exact HB.out)
    ·
     have hd : decide ((i : Int) < (n5 : Int)) = false:=decide_eq_false (by omega)
     have hd2 : decide (i < n5) = false:=decide_eq_false (by omega)
     clear hi hlt
     obtain ⟨n6,hn⟩ : ∃ n,n = c.f6.length:=⟨_,rfl⟩
     have HN6:=aq hn
     have HNL6 : Aside0 (n6 ≤ 140737488351232):=⟨by have h1:=HL6.out;omega⟩
     obtain ⟨p0,p1,p2,p3,p4,p5,p6⟩:=cells7m HZ.out
     rw [← hn] at p6
     clear hn
     go_upto_block 4 with fail
     go_wp2_with fail
     go_loopg [5] n6 (fun kq v5 wr => ∃ i : Nat,v5 = .int .i64 (i : Int) ∧ 1 ≤ i ∧ i + kq = n6 + 1 ∧ Aside0 (Below w.heap.size w wr) ∧ Aside0 (wr.heap[w.heap.size]? = some (Obj.cells (zC c B4 d4 B5 d5 B6 d6) 33 (0,0))))
     case atStart => exact ⟨1,rfl,Nat.le_refl 1,by omega,HB,HZ⟩
     case round =>
      obtain ⟨i,rfl,h1i,hi,HB,HZ⟩:=hrel
      clear p0 p1 p2 p3 p4 p5 p6
      obtain ⟨p0,p1,p2,p3,p4,p5,p6⟩:=cells7m HZ.out
      rw [← HN6.out] at p6
      by_cases hlt : i < n6
      ·
       have hltX : i < c.f6.length:=by rw [← HN6.out];exact hlt
       have HLT:=aq hlt
       obtain ⟨K1,hK1⟩ : ∃ K1,i + 1 + K1 = n6 + 1 ∧ K1 < gk:=⟨gk - 1,by omega⟩
       have HGO:=aq hK1
       clear hK1
       obtain ⟨j,rfl⟩ : ∃ j,i = j + 1:=⟨i - 1,by omega⟩
       have hjX : j < c.f6.length:=by omega
       obtain ⟨ad,E1,e1,hA,g0,g1,g2,g3,g4,g5,_⟩:=at_T37 (Kd.C_below HC6.out HB.out) (j : Int) (by omega) (Int.ofNat_lt.2 hjX)
       obtain ⟨ad',E2,e2,hA',h0,h1,h2,h3,h4,h5,_⟩:=at_T37 (Kd.C_below HC6.out HB.out) ((j + 1 : Nat) : Int) (by omega) (Int.ofNat_lt.2 hltX)
       subst hA
       obtain rfl:=Option.some.inj hA'
       obtain ⟨x,hx⟩ : ∃ s,rd_T37 c.f6 (j : Int) = s:=⟨_,rfl⟩
       obtain ⟨y,hy⟩ : ∃ s,rd_T37 c.f6 ((j + 1 : Nat) : Int) = s:=⟨_,rfl⟩
       rw [hx,Int.toNat_natCast] at g0 g1 g2 g3 g4 g5
       rw [hy,Int.toNat_natCast] at h0 h1 h2 h3 h4 h5
       have HLX:=HL6.out
       have HNX:=HN6.out
       obtain ⟨w0,w4,w1,w2,w3,b1,b2,b3,b4,b8,b9,b10,b5,b6,b7,hd,hd2⟩:=wraps_j j n6 hlt HNL6.out
       have HBX : Aside0 (Below wr.heap.size wr wr.drew):=⟨below_drew1 (Below.refl _ _)⟩
       have HBF : Aside0 (Below w.heap.size w wr.drew):=⟨below_step HB.out HBX.out⟩
       have HZX:=aq (blk_below HZ.out HBX.out)
       have z0 : wr.drew.cell? ⟨w.heap.size,6,none⟩ = some (.slice (some ad) n6 d6):=by rw [HN6.out];exact blk_cell HZX.out 6
       have z1 : wr.drew.cell? (ad.add (j * 6)) = some (.string x.f0):=sC HBX.out g0
       have z2 : wr.drew.cell? ⟨(ad.add (j * 6)).block,(ad.add (j * 6)).off + 1,none⟩ = some (.string x.f1):=sC HBX.out g1
       have z3 : wr.drew.cell? ⟨(ad.add (j * 6)).block,(ad.add (j * 6)).off + 2,none⟩ = some (.bool x.f2):=sC HBX.out g2
       have z4 : wr.drew.cell? ⟨(ad.add (j * 6)).block,(ad.add (j * 6)).off + 3,none⟩ = some (.bool x.f3):=sC HBX.out g3
       have z5 : wr.drew.cell? ⟨(ad.add (j * 6)).block,(ad.add (j * 6)).off + 4,none⟩ = some (.int .i64 x.f4):=sC HBX.out g4
       have z6 : wr.drew.cell? ⟨(ad.add (j * 6)).block,(ad.add (j * 6)).off + 5,none⟩ = some (.slice E1 x.f5.length e1):=sC HBX.out g5
       have z7 : wr.drew.cell? (ad.add ((j + 1) * 6)) = some (.string y.f0):=sC HBX.out h0
       have z8 : wr.drew.cell? ⟨(ad.add ((j + 1) * 6)).block,(ad.add ((j + 1) * 6)).off + 1,none⟩ = some (.string y.f1):=sC HBX.out h1
       have z9 : wr.drew.cell? ⟨(ad.add ((j + 1) * 6)).block,(ad.add ((j + 1) * 6)).off + 2,none⟩ = some (.bool y.f2):=sC HBX.out h2
       have z10 : wr.drew.cell? ⟨(ad.add ((j + 1) * 6)).block,(ad.add ((j + 1) * 6)).off + 3,none⟩ = some (.bool y.f3):=sC HBX.out h3
       have z11 : wr.drew.cell? ⟨(ad.add ((j + 1) * 6)).block,(ad.add ((j + 1) * 6)).off + 4,none⟩ = some (.int .i64 y.f4):=sC HBX.out h4
       have z12 : wr.drew.cell? ⟨(ad.add ((j + 1) * 6)).block,(ad.add ((j + 1) * 6)).off + 5,none⟩ = some (.slice E2 y.f5.length e2):=sC HBX.out h5
       clear hx hy hA' hltX hjX hi hlt h1i HLX HNX g0 g1 g2 g3 g4 g5 h0 h1 h2 h3 h4 h5 HBX p0 p1 p2 p3 p4 p5 p6
       have p6 : wr.cell? ⟨w.heap.size,6,none⟩ = some (.slice (some ad) n6 d6):=by rw [HN6.out];exact blk_cell HZ.out 6
       go_wp2_with fail
       refine start_ (n:=13) (S:=fun w' => w'.cell? ⟨w.heap.size,6,none⟩ = some (.slice (some ad) n6 d6) ∧ w'.cell? (ad.add (j * 6)) = some (.string x.f0) ∧ w'.cell? ⟨(ad.add (j * 6)).block,(ad.add (j * 6)).off + 1,none⟩ = some (.string x.f1) ∧ w'.cell? ⟨(ad.add (j * 6)).block,(ad.add (j * 6)).off + 2,none⟩ = some (.bool x.f2) ∧ w'.cell? ⟨(ad.add (j * 6)).block,(ad.add (j * 6)).off + 3,none⟩ = some (.bool x.f3) ∧ w'.cell? ⟨(ad.add (j * 6)).block,(ad.add (j * 6)).off + 4,none⟩ = some (.int .i64 x.f4) ∧ w'.cell? ⟨(ad.add (j * 6)).block,(ad.add (j * 6)).off + 5,none⟩ = some (.slice E1 x.f5.length e1) ∧ w'.cell? (ad.add ((j + 1) * 6)) = some (.string y.f0) ∧ w'.cell? ⟨(ad.add ((j + 1) * 6)).block,(ad.add ((j + 1) * 6)).off + 1,none⟩ = some (.string y.f1) ∧ w'.cell? ⟨(ad.add ((j + 1) * 6)).block,(ad.add ((j + 1) * 6)).off + 2,none⟩ = some (.bool y.f2) ∧ w'.cell? ⟨(ad.add ((j + 1) * 6)).block,(ad.add ((j + 1) * 6)).off + 3,none⟩ = some (.bool y.f3) ∧ w'.cell? ⟨(ad.add ((j + 1) * 6)).block,(ad.add ((j + 1) * 6)).off + 4,none⟩ = some (.int .i64 y.f4) ∧ w'.cell? ⟨(ad.add ((j + 1) * 6)).block,(ad.add ((j + 1) * 6)).off + 5,none⟩ = some (.slice E2 y.f5.length e2)) (ds:=[11]) (Array.replicate 13 false) (by kernel_rfl) rfl rfl ⟨z0,z1,z2,z3,z4,z5,z6,z7,z8,z9,z10,z11,z12⟩ (fun hHeld => ?_)
       generalize wr.drew = X at HBF HZX z0 z1 z2 z3 z4 z5 z6 z7 z8 z9 z10 z11 z12 hHeld ⊢
       refine sP (i:=0) (N:=some 53) ?_
       refine sP (i:=2) (N:=some 55) ?_
       refine sP (i:=3) (N:=some 56) ?_
       refine sP (i:=6) (N:=some 59) ?_
       refine sP (i:=8) (N:=some 61) ?_
       refine sT (i:=1) (N:=some 54) hHeld ?_
       refine sP (i:=4) (N:=some 57) ?_
       refine sT (i:=5) (N:=some 58) hHeld ?_
       refine sT (i:=7) (N:=some 60) hHeld ?_
       refine sP (i:=9) (N:=some 62) ?_
       refine sT (i:=10) (N:=some 63) hHeld ?_
       refine sX (i:=11) (N:=some 64) fun K hK => ?_
       refine sG Try.func87 #[.agg (zH x E1 e1),.agg (zH y E2 e2)] ?_
       refine (below_any x y E1 E2 e1 e2 X).mono ?_
       rintro e w6 ⟨b,rfl,hb⟩
       refine ⟨_,rfl,?_⟩
       have HB6:=aq (below_step HBF.out hb)
       have HZ6:=aq (blk_below HZX.out hb)
       clear hb
       refine hK.out _ _ ?_
       clear hK K
       refine sN ?_
       refine sP (i:=12) (N:=some 65) ?_
       refine done_ (by kernel_rfl) ?_
       clear z0 z1 z2 z3 z4 z5 z6 z7 z8 z9 z10 z11 z12 hHeld p6
       replace HB:=HB6
       replace HZ:=HZ6
       cases b with
       | false =>
        go_wp2_with fail
        exact HQ.out false _ HB.out
       | true =>
        go_wp2_with fail
        go_roundg K1
        case measure => exact HGO.out.2
        case rel => exact ⟨j + 1 + 1,congrArg (Value.int .i64) (wrap_nextQ (j + 1) n6 HLT.out HNL6.out),Nat.le_add_left 1 _,HGO.out.1,by first|exact ⟨pw_below_drewN HB.out _⟩|exact ⟨below_drew1 HB.out⟩|exact HB,by first|exact ⟨blk_below HZ.out (pw_below_drewN (Below.refl _ _) _)⟩|exact ⟨blk_below HZ.out (below_drew1 (Below.refl _ _))⟩|exact HZ⟩
      ·
       have hd : decide ((i : Int) < (n6 : Int)) = false:=decide_eq_false (by omega)
       have hd2 : decide (i < n6) = false:=decide_eq_false (by omega)
       clear hi hlt
       go_wp2_with fail
       exact HQ.out true _ HB.out
theorem rordered_any (c : S33) (B4 B5 B6 : Option Addr) (d4 d5 d6 : Nat) (hc : Op.QClass c) (w : World) (hC4 : Kd.C Kd.string w B4 c.f4.length c.f4) (hC5 : Kd.C k103 w B5 c.f5.length c.f5) (hC6 : Kd.C k37 w B6 c.f6.length c.f6) :
  Calls Try.prog 67 #[.agg (zC c B4 d4 B5 d5 B6 d6)] w fun e w' => ∃ b,e = .returned (.bool b) ∧ Below w.heap.size w w':=rordered_q c B4 B5 B6 d4 d5 d6 hc w hC4 hC5 hC6 _ ⟨fun b _ hb => ⟨b,rfl,hb⟩⟩
theorem wraps_i (i j n : Nat) (h : i = j + 1) (hl : i < n) (hn : n ≤ 140737488351232) : decide ((i : Int) > 0) = true ∧ decide (0 < i) = true ∧ IntKind.i64.wrap ((i : Int) - 1) = (j : Int) ∧ wrap64 ((i : Int) - 1) = (j : Int) ∧ (0 ≤ (j : Int)) = True ∧ ((j : Int) < (n : Int)) = True ∧ (j < n) = True := by
 refine ⟨decide_eq_true (by omega),decide_eq_true (by omega),?_,?_,eq_true (by omega),eq_true (by omega),eq_true (by omega)⟩
 ·
  rw [IntWalk.i64_in _ (by omega)]
  omega
 ·
  unfold wrap64
  omega
theorem rinorder_q (A0 : Option Addr) (c0 : Nat) (l0 : List S33) (A1 : Option Addr) (c1 : Nat) (l1 : List ByteArray) (a2 a3 a4 : ByteArray) (hl0 : l0.length ≤ 140737488351232) (hq : ∀ x ∈ l0, Op.QClass x) (w : World) (hC0 : Kd.C k33 w A0 l0.length l0) (Q : Ending → World → Prop) (HQ : Aside0 (∀ b w', Below w.heap.size w w' → Q (.returned (.bool b)) w')) :
  Calls Try.prog 43 #[.agg (pG A0 l0 c0 A1 l1 c1 a2 a3 a4)] w Q:=by
 have HC0:=aq hC0
 have HLc:=aq hl0
 have HQP:=aq hq
 clear hC0 hl0 hq
 have HB:=aq (below_alloc (Below.refl w.heap.size w) (Obj.cells (pG A0 l0 c0 A1 l1 c1 a2 a3 a4) 27))
 have h0:=World.alloc_heap_new w (Obj.cells (pG A0 l0 c0 A1 l1 c1 a2 a3 a4) 27)
 obtain ⟨W,hW⟩ : ∃ W,w.alloc (Obj.cells (pG A0 l0 c0 A1 l1 c1 a2 a3 a4) 27) = W:=⟨_,rfl⟩
 rw [hW] at HB h0
 have HW:=aq hW
 have HZ:=aq h0
 clear h0 hW
 go_enter Try.func43,Try.ntmps43
 go_upto_region 1 with fail
 rw [HW.out]
 obtain ⟨p0,p1,p2,p3,p4⟩:=cells5 HZ.out
 obtain ⟨nc,hn⟩ : ∃ n,n = l0.length:=⟨_,rfl⟩
 have HNc:=aq hn
 have HNLc : Aside0 (nc ≤ 140737488351232):=⟨by have h1:=HLc.out;omega⟩
 obtain ⟨p0,p1,p2,p3,p4⟩:=cells5 HZ.out
 rw [← hn] at p0
 clear hn
 go_upto_block 0 with fail
 go_wp2_with fail
 go_loopg [3] nc (fun kq v3 wr => ∃ i : Nat,v3 = .int .i64 (i : Int) ∧ i + kq = nc ∧ Aside0 (Below w.heap.size w wr) ∧ Aside0 (wr.heap[w.heap.size]? = some (Obj.cells (pG A0 l0 c0 A1 l1 c1 a2 a3 a4) 27 (0,0))))
 case atStart => exact ⟨0,rfl,by omega,HB,HZ⟩
 case round =>
  obtain ⟨i,rfl,hi,HB,HZ⟩:=hrel
  clear p0 p1 p2 p3 p4
  obtain ⟨p0,p1,p2,p3,p4⟩:=cells5 HZ.out
  rw [← HNc.out] at p0
  by_cases hlt : i < nc
  ·
   have hltX : i < l0.length:=by rw [← HNc.out];exact hlt
   have HLT:=aq hlt
   obtain ⟨K1,hK1⟩ : ∃ K1,i + 1 + K1 = nc ∧ K1 < gk:=⟨gk - 1,by omega⟩
   have HGO:=aq hK1
   clear hK1
   have hd : decide ((i : Int) < (nc : Int)) = true:=decide_eq_true (by omega)
   have hi0 : (0 : Int) ≤ (i : Int):=by omega
   have hi1 : (i : Int) < (nc : Int):=by omega
   have hd2 : decide (i < nc) = true:=decide_eq_true (by omega)
   have hi2 : (i < nc) = True:=eq_true (by omega)
   obtain ⟨ad,B4,d4,B5,d5,B6,d6,hA,h0,h1,h2,h3,h4,h5,h6,hl4,hC4,hl5,hC5,hl6,hC6⟩:=at_T33 (Kd.C_below HC0.out HB.out) (i : Int) (by omega) (Int.ofNat_lt.2 hltX)
   have hx : rd_T33 l0 (i : Int) = l0[i]:=by
    unfold rd_T33
    rw [Int.toNat_natCast,List.getD_eq_getElem?_getD,List.getElem?_eq_getElem (by assumption)]
    rfl
   rw [hx,Int.toNat_natCast] at h0 h1 h2 h3 h4 h5 h6
   rw [hx] at hl4 hC4 hl5 hC5 hl6 hC6
   have hqc:=HQP.out _ (List.getElem_mem hltX)
   obtain ⟨c,hy⟩ : ∃ y,l0[i] = y:=⟨_,rfl⟩
   rw [hy] at h0 h1 h2 h3 h4 h5 h6 hl4 hC4 hl5 hC5 hl6 hC6 hqc
   have HQC:=aq hqc
   have HC4:=aq hC4
   have HC5F:=aq hC5
   have HC6:=aq hC6
   have HBX : Aside0 (Below wr.heap.size wr wr.drew):=⟨below_drew1 (Below.refl _ _)⟩
   have HBF : Aside0 (Below w.heap.size w wr.drew):=⟨below_step HB.out HBX.out⟩
   have HZX:=aq (blk_below HZ.out HBX.out)
   rw [hA] at p0
   have z0 : wr.drew.cell? ⟨w.heap.size,0,none⟩ = some (.slice (some ad) nc c0):=by rw [← hA,HNc.out];exact blk_cell HZX.out 0
   have z1 : wr.drew.cell? (ad.add (i * 7)) = some (.string c.f0):=sC HBX.out h0
   have z2 : wr.drew.cell? ⟨(ad.add (i * 7)).block,(ad.add (i * 7)).off + 1,none⟩ = some (.string c.f1):=sC HBX.out h1
   have z3 : wr.drew.cell? ⟨(ad.add (i * 7)).block,(ad.add (i * 7)).off + 2,none⟩ = some (.bool c.f2):=sC HBX.out h2
   have z4 : wr.drew.cell? ⟨(ad.add (i * 7)).block,(ad.add (i * 7)).off + 3,none⟩ = some (.bool c.f3):=sC HBX.out h3
   have z5 : wr.drew.cell? ⟨(ad.add (i * 7)).block,(ad.add (i * 7)).off + 4,none⟩ = some (.slice B4 c.f4.length d4):=sC HBX.out h4
   have z6 : wr.drew.cell? ⟨(ad.add (i * 7)).block,(ad.add (i * 7)).off + 5,none⟩ = some (.slice B5 c.f5.length d5):=sC HBX.out h5
   have z7 : wr.drew.cell? ⟨(ad.add (i * 7)).block,(ad.add (i * 7)).off + 6,none⟩ = some (.slice B6 c.f6.length d6):=sC HBX.out h6
   have HHA:=aq hA
   clear p1 p2 p3 p4 hx hy hqc hl4 hC4 hl5 hC5 hl6 hC6 hA h0 h1 h2 h3 h4 h5 h6
   by_cases hz : i = 0
   ·
    have hgt : decide ((i : Int) > 0) = false:=decide_eq_false (by omega)
    have hgt2 : decide (0 < i) = false:=decide_eq_false (by omega)
    clear hz hltX hi hlt
    go_wp2_with fail
    refine start_ (n:=27) (S:=fun w' => w'.cell? ⟨w.heap.size,0,none⟩ = some (.slice (some ad) nc c0) ∧ w'.cell? (ad.add (i * 7)) = some (.string c.f0) ∧ w'.cell? ⟨(ad.add (i * 7)).block,(ad.add (i * 7)).off + 1,none⟩ = some (.string c.f1) ∧ w'.cell? ⟨(ad.add (i * 7)).block,(ad.add (i * 7)).off + 2,none⟩ = some (.bool c.f2) ∧ w'.cell? ⟨(ad.add (i * 7)).block,(ad.add (i * 7)).off + 3,none⟩ = some (.bool c.f3) ∧ w'.cell? ⟨(ad.add (i * 7)).block,(ad.add (i * 7)).off + 4,none⟩ = some (.slice B4 c.f4.length d4) ∧ w'.cell? ⟨(ad.add (i * 7)).block,(ad.add (i * 7)).off + 5,none⟩ = some (.slice B5 c.f5.length d5) ∧ w'.cell? ⟨(ad.add (i * 7)).block,(ad.add (i * 7)).off + 6,none⟩ = some (.slice B6 c.f6.length d6)) (ds:=[]) (Array.replicate 27 false) (by kernel_rfl) rfl rfl ⟨z0,z1,z2,z3,z4,z5,z6,z7⟩ (fun hHeld => ?_)
    generalize wr.drew = X at HBX HBF HZX z0 z1 z2 z3 z4 z5 z6 z7 hHeld ⊢
    refine sP (i:=0) (N:=some 11) ?_
    refine sP (i:=2) (N:=some 13) ?_
    refine sT (i:=1) (N:=some 12) hHeld ?_
    refine sP (i:=3) (N:=some 14) ?_
    refine sT (i:=4) (N:=some 15) hHeld ?_
    refine sO (i:=5) (N:=some 16) fun K hK => ?_
    refine sG Try.func67 #[.agg (zC c B4 d4 B5 d5 B6 d6)] ?_
    refine (rordered_any c B4 B5 B6 d4 d5 d6 HQC.out X (Kd.C_below HC4.out HBX.out) (Kd.C_below HC5F.out HBX.out) (Kd.C_below HC6.out HBX.out)).mono ?_
    rintro e w6 ⟨b,rfl,hb⟩
    refine ⟨_,rfl,?_⟩
    have y0:=sC hb z0
    have y1:=sC hb z1
    have y2:=sC hb z2
    have y3:=sC hb z3
    have y4:=sC hb z4
    have y5:=sC hb z5
    have y6:=sC hb z6
    have y7:=sC hb z7
    have HB6:=aq (below_step HBF.out hb)
    have HZ6:=aq (blk_below HZX.out hb)
    clear hb
    refine hK.out _ _ ⟨y0,y1,y2,y3,y4,y5,y6,y7⟩ (fun hHeld => ?_)
    clear hK K
    refine sN ?_
    cases b with
    | true =>
     refine sP (i:=6) (N:=some 17) ?_
     refine sP (i:=7) (N:=some 18) ?_
     refine sP (i:=8) (N:=some 19) ?_
     refine sP (i:=9) (N:=some 20) ?_
     refine sP (i:=10) (N:=some 21) ?_
     refine sU (i:=11) (N:=some 22) ?_
     refine sU (i:=12) (N:=some 23) ?_
     refine sU (i:=13) (N:=some 24) ?_
     refine sU (i:=14) (N:=some 25) ?_
     refine sU (i:=15) (N:=some 26) ?_
     refine sU (i:=16) (N:=some 27) ?_
     refine sU (i:=17) (N:=some 28) ?_
     refine sU (i:=18) (N:=some 29) ?_
     refine sU (i:=19) (N:=some 30) ?_
     refine sU (i:=20) (N:=some 31) ?_
     refine sU (i:=21) (N:=some 32) ?_
     refine sU (i:=22) (N:=some 33) ?_
     refine sU (i:=23) (N:=some 34) ?_
     refine sU (i:=24) (N:=some 35) ?_
     refine sP (i:=25) (N:=some 36) ?_
     refine sP (i:=26) (N:=some 37) ?_
     refine done_ (by kernel_rfl) ?_
     clear y0 y1 y2 y3 y4 y5 y6 y7 z0 z1 z2 z3 z4 z5 z6 z7 hHeld p0
     replace HB:=HB6
     replace HZ:=HZ6
     go_wp2_with fail
     go_roundg K1
     case measure => exact HGO.out.2
     case rel => exact ⟨i + 1,by rw [show wrap64 ((i : Int) + 1) = ((i + 1 : Nat) : Int) from wrap_nextQ i nc HLT.out HNLc.out],HGO.out.1,HB,HZ⟩
    | false =>
     refine sP (i:=6) (N:=some 17) ?_
     refine sP (i:=7) (N:=some 18) ?_
     refine sU (i:=8) (N:=some 19) ?_
     refine sU (i:=9) (N:=some 20) ?_
     refine sU (i:=10) (N:=some 21) ?_
     refine sU (i:=11) (N:=some 22) ?_
     refine sU (i:=12) (N:=some 23) ?_
     refine sU (i:=13) (N:=some 24) ?_
     refine sU (i:=14) (N:=some 25) ?_
     refine sU (i:=15) (N:=some 26) ?_
     refine sU (i:=16) (N:=some 27) ?_
     refine sU (i:=17) (N:=some 28) ?_
     refine sU (i:=18) (N:=some 29) ?_
     refine sU (i:=19) (N:=some 30) ?_
     refine sU (i:=20) (N:=some 31) ?_
     refine sU (i:=21) (N:=some 32) ?_
     refine sU (i:=22) (N:=some 33) ?_
     refine sU (i:=23) (N:=some 34) ?_
     refine sU (i:=24) (N:=some 35) ?_
     refine sU (i:=25) (N:=some 36) ?_
     refine sP (i:=26) (N:=some 37) ?_
     refine done_ (by kernel_rfl) ?_
     clear y0 y1 y2 y3 y4 y5 y6 y7 z0 z1 z2 z3 z4 z5 z6 z7 hHeld p0
     replace HB:=HB6
     replace HZ:=HZ6
     go_wp2_with fail
     exact HQ.out false _ HB.out
   ·
    obtain ⟨j,hj⟩ : ∃ j,i = j + 1:=⟨i - 1,by omega⟩
    have hjX : j < l0.length:=by omega
    obtain ⟨ad',_,_,_,_,_,_,hA',g0,_⟩:=at_T33 (Kd.C_below HC0.out HB.out) (j : Int) (by omega) (Int.ofNat_lt.2 hjX)
    obtain rfl:=Option.some.inj (HHA.out.symm.trans hA')
    obtain ⟨s0,hs0⟩ : ∃ s,(rd_T33 l0 (j : Int)).f0 = s:=⟨_,rfl⟩
    rw [hs0,Int.toNat_natCast] at g0
    have z8 : wr.drew.cell? (ad.add (j * 7)) = some (.string s0):=sC HBX.out g0
    obtain ⟨hgt,hgt2,w1,w3,b1,b2,b6⟩:=wraps_i i j nc hj hlt HNLc.out
    clear hs0 g0 hA' hjX hj hz hltX hi hlt
    cases hbs : Op.bytesLess s0.toList c.f0.toList with
    | true =>
     go_wp2_with fail
     refine start_ (n:=27) (S:=fun w' => w'.cell? ⟨w.heap.size,0,none⟩ = some (.slice (some ad) nc c0) ∧ w'.cell? (ad.add (i * 7)) = some (.string c.f0) ∧ w'.cell? ⟨(ad.add (i * 7)).block,(ad.add (i * 7)).off + 1,none⟩ = some (.string c.f1) ∧ w'.cell? ⟨(ad.add (i * 7)).block,(ad.add (i * 7)).off + 2,none⟩ = some (.bool c.f2) ∧ w'.cell? ⟨(ad.add (i * 7)).block,(ad.add (i * 7)).off + 3,none⟩ = some (.bool c.f3) ∧ w'.cell? ⟨(ad.add (i * 7)).block,(ad.add (i * 7)).off + 4,none⟩ = some (.slice B4 c.f4.length d4) ∧ w'.cell? ⟨(ad.add (i * 7)).block,(ad.add (i * 7)).off + 5,none⟩ = some (.slice B5 c.f5.length d5) ∧ w'.cell? ⟨(ad.add (i * 7)).block,(ad.add (i * 7)).off + 6,none⟩ = some (.slice B6 c.f6.length d6) ∧ w'.cell? (ad.add (j * 7)) = some (.string s0)) (ds:=[]) (Array.replicate 27 false) (by kernel_rfl) rfl rfl ⟨z0,z1,z2,z3,z4,z5,z6,z7,z8⟩ (fun hHeld => ?_)
     generalize wr.drew = X at HBX HBF HZX z0 z1 z2 z3 z4 z5 z6 z7 z8 hHeld ⊢
     refine sP (i:=0) (N:=some 11) ?_
     refine sP (i:=2) (N:=some 13) ?_
     refine sT (i:=1) (N:=some 12) hHeld ?_
     refine sP (i:=3) (N:=some 14) ?_
     refine sT (i:=4) (N:=some 15) hHeld ?_
     refine sO (i:=5) (N:=some 16) fun K hK => ?_
     refine sG Try.func67 #[.agg (zC c B4 d4 B5 d5 B6 d6)] ?_
     refine (rordered_any c B4 B5 B6 d4 d5 d6 HQC.out X (Kd.C_below HC4.out HBX.out) (Kd.C_below HC5F.out HBX.out) (Kd.C_below HC6.out HBX.out)).mono ?_
     rintro e w6 ⟨b,rfl,hb⟩
     refine ⟨_,rfl,?_⟩
     have y0:=sC hb z0
     have y1:=sC hb z1
     have y2:=sC hb z2
     have y3:=sC hb z3
     have y4:=sC hb z4
     have y5:=sC hb z5
     have y6:=sC hb z6
     have y7:=sC hb z7
     have y8:=sC hb z8
     have HB6:=aq (below_step HBF.out hb)
     have HZ6:=aq (blk_below HZX.out hb)
     clear hb
     refine hK.out _ _ ⟨y0,y1,y2,y3,y4,y5,y6,y7,y8⟩ (fun hHeld => ?_)
     clear hK K
     refine sN ?_
     cases b with
     | true =>
      refine sP (i:=6) (N:=some 17) ?_
      refine sP (i:=7) (N:=some 18) ?_
      refine sP (i:=8) (N:=some 19) ?_
      refine sP (i:=9) (N:=some 20) ?_
      refine sP (i:=10) (N:=some 21) ?_
      refine sP (i:=11) (N:=some 22) ?_
      refine sP (i:=13) (N:=some 24) ?_
      refine sP (i:=14) (N:=some 25) ?_
      refine sP (i:=18) (N:=some 29) ?_
      refine sP (i:=20) (N:=some 31) ?_
      refine sT (i:=12) (N:=some 23) hHeld ?_
      refine sP (i:=15) (N:=some 26) ?_
      refine sP (i:=16) (N:=some 27) ?_
      refine sT (i:=17) (N:=some 28) hHeld ?_
      refine sT (i:=19) (N:=some 30) hHeld ?_
      refine sP (i:=21) (N:=some 32) ?_
      refine sP (i:=22) (N:=some 33) ?_
      refine sT (i:=23) (N:=some 34) hHeld ?_
      refine sP (i:=24) (N:=some 35) ?_
      refine sP (i:=25) (N:=some 36) ?_
      refine sP (i:=26) (N:=some 37) ?_
      refine done_ (by kernel_rfl) ?_
      clear y0 y1 y2 y3 y4 y5 y6 y7 y8 z0 z1 z2 z3 z4 z5 z6 z7 z8 hHeld p0
      replace HB:=HB6
      replace HZ:=HZ6
      go_wp2_with fail
      go_roundg K1
      case measure => exact HGO.out.2
      case rel => exact ⟨i + 1,by rw [show wrap64 ((i : Int) + 1) = ((i + 1 : Nat) : Int) from wrap_nextQ i nc HLT.out HNLc.out],HGO.out.1,HB,HZ⟩
     | false =>
      refine sP (i:=6) (N:=some 17) ?_
      refine sP (i:=7) (N:=some 18) ?_
      refine sU (i:=8) (N:=some 19) ?_
      refine sU (i:=9) (N:=some 20) ?_
      refine sU (i:=10) (N:=some 21) ?_
      refine sU (i:=11) (N:=some 22) ?_
      refine sU (i:=12) (N:=some 23) ?_
      refine sU (i:=13) (N:=some 24) ?_
      refine sU (i:=14) (N:=some 25) ?_
      refine sU (i:=15) (N:=some 26) ?_
      refine sU (i:=16) (N:=some 27) ?_
      refine sU (i:=17) (N:=some 28) ?_
      refine sU (i:=18) (N:=some 29) ?_
      refine sU (i:=19) (N:=some 30) ?_
      refine sU (i:=20) (N:=some 31) ?_
      refine sU (i:=21) (N:=some 32) ?_
      refine sU (i:=22) (N:=some 33) ?_
      refine sU (i:=23) (N:=some 34) ?_
      refine sU (i:=24) (N:=some 35) ?_
      refine sU (i:=25) (N:=some 36) ?_
      refine sP (i:=26) (N:=some 37) ?_
      refine done_ (by kernel_rfl) ?_
      clear y0 y1 y2 y3 y4 y5 y6 y7 y8 z0 z1 z2 z3 z4 z5 z6 z7 z8 hHeld p0
      replace HB:=HB6
      replace HZ:=HZ6
      go_wp2_with fail
      exact HQ.out false _ HB.out
    | false =>
     go_wp2_with fail
     refine start_ (n:=27) (S:=fun w' => w'.cell? ⟨w.heap.size,0,none⟩ = some (.slice (some ad) nc c0) ∧ w'.cell? (ad.add (i * 7)) = some (.string c.f0) ∧ w'.cell? ⟨(ad.add (i * 7)).block,(ad.add (i * 7)).off + 1,none⟩ = some (.string c.f1) ∧ w'.cell? ⟨(ad.add (i * 7)).block,(ad.add (i * 7)).off + 2,none⟩ = some (.bool c.f2) ∧ w'.cell? ⟨(ad.add (i * 7)).block,(ad.add (i * 7)).off + 3,none⟩ = some (.bool c.f3) ∧ w'.cell? ⟨(ad.add (i * 7)).block,(ad.add (i * 7)).off + 4,none⟩ = some (.slice B4 c.f4.length d4) ∧ w'.cell? ⟨(ad.add (i * 7)).block,(ad.add (i * 7)).off + 5,none⟩ = some (.slice B5 c.f5.length d5) ∧ w'.cell? ⟨(ad.add (i * 7)).block,(ad.add (i * 7)).off + 6,none⟩ = some (.slice B6 c.f6.length d6) ∧ w'.cell? (ad.add (j * 7)) = some (.string s0)) (ds:=[]) (Array.replicate 27 false) (by kernel_rfl) rfl rfl ⟨z0,z1,z2,z3,z4,z5,z6,z7,z8⟩ (fun hHeld => ?_)
     generalize wr.drew = X at HBX HBF HZX z0 z1 z2 z3 z4 z5 z6 z7 z8 hHeld ⊢
     refine sP (i:=0) (N:=some 11) ?_
     refine sP (i:=2) (N:=some 13) ?_
     refine sT (i:=1) (N:=some 12) hHeld ?_
     refine sP (i:=3) (N:=some 14) ?_
     refine sT (i:=4) (N:=some 15) hHeld ?_
     refine sO (i:=5) (N:=some 16) fun K hK => ?_
     refine sG Try.func67 #[.agg (zC c B4 d4 B5 d5 B6 d6)] ?_
     refine (rordered_any c B4 B5 B6 d4 d5 d6 HQC.out X (Kd.C_below HC4.out HBX.out) (Kd.C_below HC5F.out HBX.out) (Kd.C_below HC6.out HBX.out)).mono ?_
     rintro e w6 ⟨b,rfl,hb⟩
     refine ⟨_,rfl,?_⟩
     have y0:=sC hb z0
     have y1:=sC hb z1
     have y2:=sC hb z2
     have y3:=sC hb z3
     have y4:=sC hb z4
     have y5:=sC hb z5
     have y6:=sC hb z6
     have y7:=sC hb z7
     have y8:=sC hb z8
     have HB6:=aq (below_step HBF.out hb)
     have HZ6:=aq (blk_below HZX.out hb)
     clear hb
     refine hK.out _ _ ⟨y0,y1,y2,y3,y4,y5,y6,y7,y8⟩ (fun hHeld => ?_)
     clear hK K
     refine sN ?_
     cases b with
     | true =>
      refine sP (i:=6) (N:=some 17) ?_
      refine sP (i:=7) (N:=some 18) ?_
      refine sP (i:=8) (N:=some 19) ?_
      refine sP (i:=9) (N:=some 20) ?_
      refine sP (i:=10) (N:=some 21) ?_
      refine sP (i:=11) (N:=some 22) ?_
      refine sP (i:=13) (N:=some 24) ?_
      refine sP (i:=14) (N:=some 25) ?_
      refine sP (i:=18) (N:=some 29) ?_
      refine sP (i:=20) (N:=some 31) ?_
      refine sT (i:=12) (N:=some 23) hHeld ?_
      refine sP (i:=15) (N:=some 26) ?_
      refine sP (i:=16) (N:=some 27) ?_
      refine sT (i:=17) (N:=some 28) hHeld ?_
      refine sT (i:=19) (N:=some 30) hHeld ?_
      refine sP (i:=21) (N:=some 32) ?_
      refine sP (i:=22) (N:=some 33) ?_
      refine sT (i:=23) (N:=some 34) hHeld ?_
      refine sP (i:=24) (N:=some 35) ?_
      refine sP (i:=25) (N:=some 36) ?_
      refine sP (i:=26) (N:=some 37) ?_
      refine done_ (by kernel_rfl) ?_
      clear y0 y1 y2 y3 y4 y5 y6 y7 y8 z0 z1 z2 z3 z4 z5 z6 z7 z8 hHeld p0
      replace HB:=HB6
      replace HZ:=HZ6
      go_wp2_with fail
      exact HQ.out false _ HB.out
     | false =>
      refine sP (i:=6) (N:=some 17) ?_
      refine sP (i:=7) (N:=some 18) ?_
      refine sU (i:=8) (N:=some 19) ?_
      refine sU (i:=9) (N:=some 20) ?_
      refine sU (i:=10) (N:=some 21) ?_
      refine sU (i:=11) (N:=some 22) ?_
      refine sU (i:=12) (N:=some 23) ?_
      refine sU (i:=13) (N:=some 24) ?_
      refine sU (i:=14) (N:=some 25) ?_
      refine sU (i:=15) (N:=some 26) ?_
      refine sU (i:=16) (N:=some 27) ?_
      refine sU (i:=17) (N:=some 28) ?_
      refine sU (i:=18) (N:=some 29) ?_
      refine sU (i:=19) (N:=some 30) ?_
      refine sU (i:=20) (N:=some 31) ?_
      refine sU (i:=21) (N:=some 32) ?_
      refine sU (i:=22) (N:=some 33) ?_
      refine sU (i:=23) (N:=some 34) ?_
      refine sU (i:=24) (N:=some 35) ?_
      refine sU (i:=25) (N:=some 36) ?_
      refine sP (i:=26) (N:=some 37) ?_
      refine done_ (by kernel_rfl) ?_
      clear y0 y1 y2 y3 y4 y5 y6 y7 y8 z0 z1 z2 z3 z4 z5 z6 z7 z8 hHeld p0
      replace HB:=HB6
      replace HZ:=HZ6
      go_wp2_with fail
      exact HQ.out false _ HB.out
  ·
   have hd : decide ((i : Int) < (nc : Int)) = false:=decide_eq_false (by omega)
   have hd2 : decide (i < nc) = false:=decide_eq_false (by omega)
   clear hi hlt
   go_wp2_with fail
   exact HQ.out true _ HB.out
theorem rinorder_any (A0 : Option Addr) (c0 : Nat) (l0 : List S33) (A1 : Option Addr) (c1 : Nat) (l1 : List ByteArray) (a2 a3 a4 : ByteArray) (hl0 : l0.length ≤ 140737488351232) (hq : ∀ x ∈ l0, Op.QClass x) (w : World) (hC0 : Kd.C k33 w A0 l0.length l0) : Calls Try.prog 43 #[.agg (pG A0 l0 c0 A1 l1 c1 a2 a3 a4)] w fun e w' => ∃ b, e = .returned (.bool b) ∧ Below w.heap.size w w' := rinorder_q A0 c0 l0 A1 c1 l1 a2 a3 a4 hl0 hq w hC0 _ ⟨fun b _ hb => ⟨b, rfl, hb⟩⟩
theorem entry_any (a b c : ByteArray) (ha : a.size ≤ 140737488351232) (hb : b.size ≤ 140737488351232) (w : World) : Calls Try.prog 42 #[.agg #[.string a, .string b, .string c]] w fun e w' => ∃ r, e = .returned (.bool r) ∧ Below w.heap.size w w' := entry_q a b c ha hb w _ ⟨fun b _ hb => ⟨b, rfl, hb⟩⟩
theorem rright_q (A0 : Option Addr) (c0 : Nat) (l0 : List S33) (A1 : Option Addr) (c1 : Nat) (l1 : List ByteArray) (a2 a3 a4 : ByteArray) (hl0 : l0.length ≤ 140737488351232) (hq : ∀ x ∈ l0, Op.QClass x) (hl1 : l1.length ≤ 140737488351232) (hs2 : a2.size ≤ 140737488351232) (hs3 : a3.size ≤ 140737488351232) (w : World) (hC0 : Kd.C k33 w A0 l0.length l0) (hC1 : Kd.C Kd.string w A1 l1.length l1)
  (Q : Ending → World → Prop) (HQ : Aside0 (∀ e w',(e = 0 → ∀ c ∈ l0,∀ m ∈ c.f6,FitsM m) → Below w.heap.size w w' → Q (.returned (.int .i64 e)) w')) :
  Calls Try.prog 26 #[.agg (pG A0 l0 c0 A1 l1 c1 a2 a3 a4)] w Q:=by
 have HC0:=aq hC0
 have HC1:=aq hC1
 have HLc:=aq hl0
 have HLn:=aq hl1
 have HQP:=aq hq
 have HSE:=aq (And.intro hs2 hs3)
 clear hC0 hC1 hl0 hl1 hq hs2 hs3
 have HB:=aq (below_alloc (Below.refl w.heap.size w) (Obj.cells (pG A0 l0 c0 A1 l1 c1 a2 a3 a4) 27))
 have h0:=World.alloc_heap_new w (Obj.cells (pG A0 l0 c0 A1 l1 c1 a2 a3 a4) 27)
 obtain ⟨W,hW⟩ : ∃ W,w.alloc (Obj.cells (pG A0 l0 c0 A1 l1 c1 a2 a3 a4) 27) = W:=⟨_,rfl⟩
 rw [hW] at HB h0
 have HW:=aq hW
 have HZ:=aq h0
 clear h0 hW
 go_enter Try.func26,Try.ntmps26
 go_upto_region 1 with fail
 rw [HW.out]
 obtain ⟨p0,p1,p2,p3,p4⟩:=cells5 HZ.out
 go_cut [5] (fun v5 wc => ∃ b,v5 = .bool b ∧ Aside0 (Below w.heap.size w wc) ∧ Aside0 (wc.heap[w.heap.size]? = some (Obj.cells (pG A0 l0 c0 A1 l1 c1 a2 a3 a4) 27 (0,0))))
 case first =>
  go_wp2_with (first
   | (go_at_call 40;refine (rlong_any A0 c0 l0 A1 c1 l1 a2 a3 a4 HLc.out HLn.out _ (Kd.C_below HC0.out HB.out) (Kd.C_below HC1.out HB.out)).mono ?_;rintro e w1 ⟨b1,rfl,hb1⟩;replace HB:=aq (below_step (by first|exact HB.out|exact below_alloc HB.out _) hb1);replace HZ:=aq (blk_below (by first|exact HZ.out|exact blk_alloc HZ.out _) hb1);clear hb1 p0 p1 p2 p3 p4;obtain ⟨p0,p1,p2,p3,p4⟩:=cells5 HZ.out)
   | fail)
  all_goals (go_meet;case rel => exact ⟨_,rfl,HB,HZ⟩)
 case rest =>
  obtain ⟨b,rfl,HB,HZ⟩:=hcut
  cases b with
  | true =>
   go_wp2_with fail
   exact HQ.out 3 _ (fun h => absurd h (by decide)) HB.out
  | false =>
   obtain ⟨nc,hn⟩ : ∃ n,n = l0.length:=⟨_,rfl⟩
   have HNc:=aq hn
   have HNLc : Aside0 (nc ≤ 140737488351232):=⟨by have h1:=HLc.out;omega⟩
   obtain ⟨p0,p1,p2,p3,p4⟩:=cells5 HZ.out
   rw [← hn] at p0
   clear hn
   go_upto_block 0 with fail
   go_wp2_with fail
   go_loopg [3] nc (fun kq v3 wr => ∃ i : Nat,v3 = .int .i64 (i : Int) ∧ i + kq = nc ∧ Aside0 (∀ y ∈ l0.take i,∀ m ∈ y.f6,FitsM m) ∧ Aside0 (Below w.heap.size w wr) ∧ Aside0 (wr.heap[w.heap.size]? = some (Obj.cells (pG A0 l0 c0 A1 l1 c1 a2 a3 a4) 27 (0,0))))
   case atStart => exact ⟨0,rfl,by omega,⟨fun y h => by cases h⟩,HB,HZ⟩
   case round =>
    obtain ⟨i,rfl,hi,HT,HB,HZ⟩:=hrel
    clear p0 p1 p2 p3 p4
    obtain ⟨p0,p1,p2,p3,p4⟩:=cells5 HZ.out
    rw [← HNc.out] at p0
    by_cases hlt : i < nc
    ·
     have hltX : i < l0.length:=by rw [← HNc.out];exact hlt
     have HLT:=aq hlt
     obtain ⟨K1,hK1⟩ : ∃ K1,i + 1 + K1 = nc ∧ K1 < gk:=⟨gk - 1,by omega⟩
     have HGO:=aq hK1
     clear hK1
     have hd : decide ((i : Int) < (nc : Int)) = true:=decide_eq_true (by omega)
     have hi0 : (0 : Int) ≤ (i : Int):=by omega
     have hi1 : (i : Int) < (nc : Int):=by omega
     have hd2 : decide (i < nc) = true:=decide_eq_true (by omega)
     have hi2 : (i < nc) = True:=eq_true (by omega)
     obtain ⟨ad,B4,d4,B5,d5,B6,d6,hA,h0,h1,h2,h3,h4,h5,h6,hl4,hC4,hl5,hC5,hl6,hC6⟩:=at_T33 (Kd.C_below HC0.out HB.out) (i : Int) (by omega) (Int.ofNat_lt.2 hltX)
     have hx : rd_T33 l0 (i : Int) = l0[i]:=by
      unfold rd_T33
      rw [Int.toNat_natCast,List.getD_eq_getElem?_getD,List.getElem?_eq_getElem (by assumption)]
      rfl
     rw [hx,Int.toNat_natCast] at h0 h1 h2 h3 h4 h5 h6
     rw [hx] at hl4 hC4 hl5 hC5 hl6 hC6
     have hqc:=HQP.out _ (List.getElem_mem hltX)
     obtain ⟨c,hy⟩ : ∃ y,l0[i] = y:=⟨_,rfl⟩
     rw [hy] at h0 h1 h2 h3 h4 h5 h6 hl4 hC4 hl5 hC5 hl6 hC6 hqc
     have HNX:=aq (fun hp => ok_next (p:=fun y => ∀ m ∈ y.f6,FitsM m) HT.out hltX hy hp)
     have HQC:=aq hqc
     have HC4:=aq hC4
     have HC5F:=aq hC5
     have HC6:=aq hC6
     subst hA
     clear hx hy hqc hl4 hC4 hl5 hC5 hl6 hC6 hltX hi hlt HT
     go_wp2_with (first
      | (go_at_call 41;refine (rclass_any c B4 B5 B6 d4 d5 d6 HQC.out _ HC4.out HC5F.out HC6.out).mono ?_;rintro e w1 ⟨b1,rfl,hf,hb1⟩;replace HB:=aq (below_step (by first|exact HB.out|exact below_alloc HB.out _) hb1);replace HZ:=aq (blk_below (by first|exact HZ.out|exact blk_alloc HZ.out _) hb1);clear hb1 p0 p1 p2 p3 p4;obtain ⟨p0,p1,p2,p3,p4⟩:=cells5 HZ.out;have HF:=aq hf;clear hf;cases b1)
      | fail)
     ·
      exact HQ.out 1 _ (fun h => absurd h (by decide)) HB.out
     ·
      go_roundg K1
      case measure => exact HGO.out.2
      case rel => exact ⟨i + 1,by rw [show wrap64 ((i : Int) + 1) = ((i + 1 : Nat) : Int) from wrap_nextQ i nc HLT.out HNLc.out],HGO.out.1,⟨HNX.out (HF.out (by first|rfl|trivial))⟩,HB,HZ⟩
    ·
     have hd : decide ((i : Int) < (nc : Int)) = false:=decide_eq_false (by omega)
     have hd2 : decide (i < nc) = false:=decide_eq_false (by omega)
     have HFO:=aq (ok_end HT.out (by rw [← HNc.out];omega))
     clear HT
     clear hi hlt
     go_wp2_with (first
      | (go_at_call 42;refine (entry_any a2 a3 a4 HSE.out.1 HSE.out.2 _).mono ?_;rintro e w1 ⟨b1,rfl,hb1⟩;replace HB:=aq (below_step (by first|exact HB.out|exact below_alloc HB.out _) hb1);replace HZ:=aq (blk_below (by first|exact HZ.out|exact blk_alloc HZ.out _) hb1);clear hb1 p0 p1 p2 p3 p4;obtain ⟨p0,p1,p2,p3,p4⟩:=cells5 HZ.out;cases b1)
      | (go_at_call 43;refine (rinorder_any A0 c0 l0 A1 c1 l1 a2 a3 a4 HLc.out HQP.out _ (Kd.C_below HC0.out HB.out)).mono ?_;rintro e w1 ⟨b1,rfl,hb1⟩;replace HB:=aq (below_step (by first|exact HB.out|exact below_alloc HB.out _) hb1);replace HZ:=aq (blk_below (by first|exact HZ.out|exact blk_alloc HZ.out _) hb1);clear hb1 p0 p1 p2 p3 p4;obtain ⟨p0,p1,p2,p3,p4⟩:=cells5 HZ.out;cases b1)
      | fail)
     all_goals first|exact HQ.out 0 _ (fun _ => HFO.out) HB.out|exact HQ.out _ _ (fun h => absurd h (by decide)) HB.out
theorem rright_any (A0 : Option Addr) (c0 : Nat) (l0 : List S33) (A1 : Option Addr) (c1 : Nat) (l1 : List ByteArray) (a2 a3 a4 : ByteArray) (hl0 : l0.length ≤ 140737488351232) (hq : ∀ x ∈ l0, Op.QClass x) (hl1 : l1.length ≤ 140737488351232) (hs2 : a2.size ≤ 140737488351232) (hs3 : a3.size ≤ 140737488351232) (w : World) (hC0 : Kd.C k33 w A0 l0.length l0) (hC1 : Kd.C Kd.string w A1 l1.length l1) :
  Calls Try.prog 26 #[.agg (pG A0 l0 c0 A1 l1 c1 a2 a3 a4)] w fun e w' => ∃ n,e = .returned (.int .i64 n) ∧ (n = 0 → ∀ c ∈ l0,∀ m ∈ c.f6,FitsM m) ∧ Below w.heap.size w w':=rright_q A0 c0 l0 A1 c1 l1 a2 a3 a4 hl0 hq hl1 hs2 hs3 w hC0 hC1 _ ⟨fun n _ h hb => ⟨n,rfl,h,hb⟩⟩
end Go.Proofs.Ytfplcohjnlbfjaa.Hand
end

section
namespace Go.Proofs.Ytfplcohjnlbfjaa.HandV
open Go.Proofs.Ytfplcohjnlbfjaa.Hand Go.RowKit Go.Proofs.YtfplcohjnlbfjaaW.PrintWords Go.Proofs.YtfplcohjnlbfjaaW.PrintLast Go.Proofs.YtfplcohjnlbfjaaW.PrintMore
theorem hb4_97 : hasB (shapeS 4) 97 = true := by kernel_rfl
theorem hb4_98 : hasB (shapeS 4) 98 = true := by kernel_rfl
theorem hb25_97 : hasB (shapeS 25) 97 = true := by kernel_rfl
theorem hb25_98 : hasB (shapeS 25) 98 = true := by kernel_rfl
theorem hb13_97 : hasB (shapeS 13) 97 = true := by kernel_rfl
theorem hb13_98 : hasB (shapeS 13) 98 = true := by kernel_rfl
theorem hb15_97 : hasB (shapeS 15) 97 = true := by kernel_rfl
theorem hb15_98 : hasB (shapeS 15) 98 = true := by kernel_rfl
theorem hb14_97 : hasB (shapeS 14) 97 = true := by kernel_rfl
theorem hb14_99 : hasB (shapeS 14) 99 = true := by kernel_rfl
theorem hb16_98 : hasB (shapeS 16) 98 = true := by kernel_rfl
theorem hb16_99 : hasB (shapeS 16) 99 = true := by kernel_rfl
theorem hb18_99 : hasB (shapeS 18) 99 = true := by kernel_rfl
theorem hb22_98 : hasB (shapeS 22) 98 = true := by kernel_rfl
theorem hb19_97 : hasB (shapeS 19) 97 = true := by kernel_rfl
theorem hb20_97 : hasB (shapeS 20) 97 = true := by kernel_rfl
theorem hb21_97 : hasB (shapeS 21) 97 = true := by kernel_rfl
theorem hb9_97 : hasB (shapeS 9) 97 = true := by kernel_rfl
theorem hb10_97 : hasB (shapeS 10) 97 = true := by kernel_rfl
theorem hb11_97 : hasB (shapeS 11) 97 = true := by kernel_rfl
theorem hb17_97 : hasB (shapeS 17) 97 = true := by kernel_rfl
theorem hb28_97 : hasB (shapeS 28) 97 = true := by kernel_rfl
theorem hb29_97 : hasB (shapeS 29) 97 = true := by kernel_rfl
theorem uses_fit (x : S74) (regs : Int) (h : FitsOK x regs) : ∀ r ∈ usesR x, inR r regs := by
 obtain ⟨ha,hb,hc,hl⟩:=h
 intro r hr
 unfold usesR at hr
 split at hr
 ·
  rename_i g
  rcases List.mem_cons.1 hr with rfl|hr
  ·
   rcases g with g|g|g|g
   ·
    exact ha (by rw [g];exact hb4_97)
   ·
    exact ha (by rw [g];exact hb25_97)
   ·
    exact ha (by rw [g];exact hb13_97)
   ·
    exact ha (by rw [g];exact hb15_97)
  ·
   obtain rfl:=List.mem_singleton.1 hr
   rcases g with g|g|g|g
   ·
    exact hb (by rw [g];exact hb4_98)
   ·
    exact hb (by rw [g];exact hb25_98)
   ·
    exact hb (by rw [g];exact hb13_98)
   ·
    exact hb (by rw [g];exact hb15_98)
 ·
  split at hr
  ·
   rename_i g
   rcases List.mem_cons.1 hr with rfl|hr
   ·
    exact ha (by rw [g];exact hb14_97)
   ·
    obtain rfl:=List.mem_singleton.1 hr
    exact hc (by rw [g];exact hb14_99)
  ·
   split at hr
   ·
    rename_i g
    rcases List.mem_cons.1 hr with rfl|hr
    ·
     exact hb (by rw [g];exact hb16_98)
    ·
     obtain rfl:=List.mem_singleton.1 hr
     exact hc (by rw [g];exact hb16_99)
   ·
    split at hr
    ·
     rename_i g
     obtain rfl:=List.mem_singleton.1 hr
     exact hc (by rw [g];exact hb18_99)
    ·
     split at hr
     ·
      rename_i g
      obtain rfl:=List.mem_singleton.1 hr
      exact hb (by rw [g];exact hb22_98)
     ·
      split at hr
      ·
       rename_i g
       rcases List.mem_cons.1 hr with rfl|hr
       ·
        rcases g with g|g|g
        ·
         exact ha (by rw [g];exact hb19_97)
        ·
         exact ha (by rw [g];exact hb20_97)
        ·
         exact ha (by rw [g];exact hb21_97)
       ·
        exact hl r hr
      ·
       split at hr
       ·
        rename_i g
        obtain rfl:=List.mem_singleton.1 hr
        rcases g with g|g|g|g|g|g
        ·
         exact ha (by rw [g];exact hb9_97)
        ·
         exact ha (by rw [g];exact hb10_97)
        ·
         exact ha (by rw [g];exact hb11_97)
        ·
         exact ha (by rw [g];exact hb17_97)
        ·
         exact ha (by rw [g];exact hb28_97)
        ·
         exact ha (by rw [g];exact hb29_97)
       ·
        cases hr
def WithinC (m : S25) (n : Nat) (regs : Int) (c : CV) : Prop := 0 ≤ c.f1 ∧ c.f1 < n ∧ c.f4.f0 = m ∧ (c.f2.f0 = 1 → c.f2.f1 = m ∧ inR c.f2.f2 regs) ∧ (c.f3.f0 = 1 → c.f3.f1 = m ∧ inR c.f3.f2 regs)
theorem Made.within {m : S25} {code : List S74} {l0 : List S33} {L : List CV} {regs : Int} (h : Made m code l0 code.length L) (hf : ∀ x ∈ code, FitsOK x regs) : ∀ c ∈ L, WithinC m code.length regs c := by
 obtain ⟨f,rfl,hq⟩:=h.ex
 intro c hc
 obtain ⟨j,hj,hc⟩:=List.mem_flatMap.1 hc
 have hj:=List.mem_range.1 hj
 obtain ⟨_,ha,_⟩:=hq j hj hj
 obtain ⟨h1,h2,h3,h4⟩:=ha c hc
 have hu:=uses_fit code[j] regs (hf _ (List.getElem_mem hj))
 refine ⟨by omega,by omega,h2,fun h => ⟨(h3 h).1,hu _ (h3 h).2⟩,fun h => ⟨(h4 h).1,hu _ (h4 h).2⟩⟩
theorem flat_sorted (f : Nat → List CV) : ∀ i, (∀ j, j < i → ∀ c ∈ f j, c.f1 = (j : Int)) → ((List.range i).flatMap f).Pairwise (fun a b => a.f1 ≤ b.f1)
 | 0,_ => List.Pairwise.nil
 | i + 1,h => by
  rw [List.range_succ,List.flatMap_append]
  simp only [List.flatMap_cons,List.flatMap_nil,List.append_nil]
  refine List.pairwise_append.2 ⟨flat_sorted f i (fun j hj => h j (by omega)),?_,fun a ha b hb => ?_⟩
  ·
   refine List.pairwise_of_forall_mem_list fun a ha b hb => ?_
   rw [h i (by omega) a ha,h i (by omega) b hb]
   exact Int.le_refl _
  ·
   obtain ⟨j,hj,ha⟩:=List.mem_flatMap.1 ha
   have hj:=List.mem_range.1 hj
   rw [h j (by omega) a ha,h i (by omega) b hb]
   omega
theorem Made.sorted {m : S25} {code : List S74} {l0 : List S33} {L : List CV} (h : Made m code l0 code.length L) : L.Pairwise (fun a b => a.f1 ≤ b.f1) := by
 obtain ⟨f,rfl,hq⟩:=h.ex
 exact flat_sorted f _ fun j hj c hc => ((hq j hj hj).2.1 c hc).1
theorem getM_fits {l0 : List S33} (h : ∀ c ∈ l0, ∀ m ∈ c.f6, FitsM m) (b0 b1 b2 : ByteArray) : FitsM (getM l0 b0 b1 b2) := by
 have hz : FitsM z37:=fun x hx => by cases hx
 unfold getM knownC
 cases e : l0.find? (isC b0) with
 | none => exact hz
 | some c =>
  cases e2 : c.f6.find? (isM b1 b2) with
  | none => rw [Option.getD_some,e2];exact hz
  | some m => rw [Option.getD_some,e2];exact h c (List.mem_of_find?_eq_some e) m (List.mem_of_find?_eq_some e2)
theorem GenWithin_go (P : Nat → Prop) (A0 : Option Addr) (c0 : Nat) (l0 : List S33) (A1 : Option Addr) (c1 : Nat) (l1 : List ByteArray) (a2 a3 a4 : ByteArray) (px py : Int) (w : World) (hs : Kd.F k33 w P A0 l0.length l0) (hc : l0.length ≤ c0) (hr1 : Kd.C Kd.string w A1 l1.length l1) (hc1 : l1.length ≤ c1) (hM : MaxL w)
  (hx : 0 ≤ px ∧ px < 256) (hy : 0 ≤ py ∧ py < 256) (hz : (l0.length ≤ 70 ∧ ∀ c ∈ l0,okC c) → ∀ b0 b1 b2,(∀ x ∈ (getM l0 b0 b1 b2).f5,Sized l0 x) ∧ (getM l0 b0 b1 b2).f5.length ≤ 300) (hq : ∀ x ∈ l0,Op.QClass x) (hs_ : l0.length ≤ 140737488351232 ∧ l1.length ≤ 140737488351232 ∧ a2.size ≤ 140737488351232 ∧ a3.size ≤ 140737488351232) :
  Calls Try.prog 6 #[.agg (pG A0 l0 c0 A1 l1 c1 a2 a3 a4),.int .u8 px,.int .u8 py] w fun e w' => e = .returned (.bool true) ∧ Below w.heap.size w w':=by
 have HB0:=aq (below_alloc (Below.refl w.heap.size w) (Obj.cells (pG A0 l0 c0 A1 l1 c1 a2 a3 a4) 27))
 have HP0:=aq (World.alloc_heap_new w (Obj.cells (pG A0 l0 c0 A1 l1 c1 a2 a3 a4) 27))
 have HRP:=aq (Kd.F_now hs)
 have HFS:=aq hs
 have HC0:=aq hc
 have HRS:=aq hr1
 have HC1:=aq hc1
 have HMX:=aq hM
 have HXY:=aq (And.intro hx hy)
 have HZ:=aq hz
 have HQP:=aq hq
 have HS_:=aq hs_
 have HG:=aq (law_great A0 c0 l0 A1 c1 l1 a2 a3 a4 (w.alloc (Obj.cells (pG A0 l0 c0 A1 l1 c1 a2 a3 a4) 27)) (Kd.C_below HRP.out HB0.out))
 obtain ⟨p0,p1,p2,p3,p4⟩:=cells5 HP0.out
 clear hs hc hr1 hc1 hM hx hy hz hq hs_
 go_enter Try.func6,Try.ntmps6
 go_wp2_with fail
 refine HG.out.mono ?_
 rintro e w1 ⟨gr,rfl,hgr,hb⟩
 have HGR:=aq hgr
 have HB1:=aq (below_step HB0.out hb)
 have HP1:=aq (blk_below HP0.out hb)
 clear hb hgr p0 p1 p2 p3 p4 HG
 cases gr with
 | true =>
  go_wp2_with fail
  refine (gen_live w1).mono ?_
  rintro e w2 ⟨rfl,hb⟩
  have HB2:=aq (below_step HB1.out hb)
  clear hb
  go_wp2_with fail
  exact bodyPost_ret (results_tmp rfl _ _ _) rfl ⟨rfl,HB2.out⟩
 | false =>
  have HZ0:=aq (HZ.out (HGR.out rfl))
  clear HZ
  obtain ⟨p0,p1,p2,p3,p4⟩:=cells5 HP1.out
  go_wp2_with fail
  refine (rright_any A0 c0 l0 A1 c1 l1 a2 a3 a4 HS_.out.1 HQP.out HS_.out.2.1 HS_.out.2.2.1 HS_.out.2.2.2 w1 (Kd.C_below HRP.out HB1.out) (Kd.C_below HRS.out HB1.out)).mono ?_
  rintro e wr1 ⟨er,rfl,hrt,hb⟩
  have HRT:=aq hrt
  have HBR:=aq (below_step HB1.out hb)
  have HPR:=aq (blk_below HP1.out hb)
  clear hb hrt p0 p1 p2 p3 p4
  by_cases he : er = 0
  rotate_left
  ·
   have hd : (er != 0) = true:=by
    rw [bne_iff_ne]
    exact he
   clear he
   go_wp2_with fail
   refine (gen_live wr1).mono ?_
   rintro e w2 ⟨rfl,hb⟩
   have HB2:=aq (below_step HBR.out hb)
   clear hb
   go_wp2_with fail
   exact bodyPost_ret (results_tmp rfl _ _ _) rfl ⟨rfl,HB2.out⟩
  have hd : (er != 0) = false:=by rw [he];rfl
  have HFT:=aq (HRT.out he)
  clear he HRT
  obtain ⟨p0,p1,p2,p3,p4⟩:=cells5 HPR.out
  go_wp2_with fail
  refine (law_method A0 c0 l0 A1 c1 l1 a2 a3 a4 px py wr1 (Kd.C_below HRP.out HBR.out) HXY.out.1 HXY.out.2).mono ?_
  rintro e w2 ⟨b0,b1,b2,rfl,hb⟩
  have HZZ:=aq (HZ0.out b0 b1 b2)
  have HB2:=aq (below_step HBR.out hb)
  have HP2:=aq (blk_alloc (blk_below HPR.out hb) (Obj.cells #[.string b0,.string b1,.string b2] 25))
  have HM2:=aq (World.alloc_heap_new w2 (Obj.cells #[.string b0,.string b1,.string b2] 25))
  have HBA:=aq (below_alloc HB2.out (Obj.cells #[.string b0,.string b1,.string b2] 25))
  clear hb p0 p1 p2 p3 p4
  obtain ⟨p0,p1,p2,p3,p4⟩:=cells5 HP2.out
  obtain ⟨q0,q1,q2⟩:=cells3 HM2.out
  go_wp2_with fail
  refine (ref_get P A0 c0 l0 A1 c1 l1 a2 a3 a4 b0 b1 b2 _ (Kd.F_below HFS.out HBA.out) HC0.out (Kd.C_below HRS.out HBA.out) HC1.out).mono ?_
  rintro e w3 ⟨A5,c5,rfl,hfk,hb⟩
  obtain ⟨hc5,hF⟩:=method_code hfk
  have HB3:=aq (below_step HBA.out hb)
  have HP3:=aq (blk_alloc (blk_below HP2.out hb) (Obj.cells (zH (getM l0 b0 b1 b2) A5 c5) 37))
  have HM3:=aq (blk_alloc (blk_below HM2.out hb) (Obj.cells (zH (getM l0 b0 b1 b2) A5 c5) 37))
  have HK3:=aq (World.alloc_heap_new w3 (Obj.cells (zH (getM l0 b0 b1 b2) A5 c5) 37))
  have HBC:=aq (below_alloc HB3.out (Obj.cells (zH (getM l0 b0 b1 b2) A5 c5) 37))
  have HCD:=aq (Kd.C_below (Kd.F_now hF) (below_alloc (Below.refl _ _) (Obj.cells (zH (getM l0 b0 b1 b2) A5 c5) 37)))
  have HC5:=aq hc5
  clear hfk hb hF hc5 p0 p1 p2 p3 p4 q0 q1 q2
  obtain ⟨p0,p1,p2,p3,p4⟩:=cells5 HP3.out
  obtain ⟨q0,q1,q2⟩:=cells3 HM3.out
  go_wp2_with fail
  refine (gen_ofV P A0 c0 l0 A1 c1 l1 a2 a3 a4 b0 b1 b2 _ (Kd.F_below HFS.out HBC.out) HC0.out (Kd.C_below HRS.out HBC.out) HC1.out (max_below HMX.out HBC.out) (fun i hi => puts_all A0 c0 l0 A1 c1 l1 a2 a3 a4 HC0.out HC1.out _ _ _ (HZZ.out.1 _ (List.getElem_mem hi))) HZZ.out.2).mono ?_
  rintro e w4 ⟨v,L,rfl,hR,hMd,hb⟩
  obtain ⟨hm,hhm⟩ : ∃ hm,hm = w2.heap.size:=⟨_,rfl⟩
  obtain ⟨hk,hhk⟩ : ∃ hk,hk = w3.heap.size:=⟨_,rfl⟩
  have HB4:=aq (below_step HBC.out hb)
  have HP4:=aq (blk_below HP3.out hb)
  have HM4 : Aside0 (w4.heap[hm]? = some (Obj.cells #[.string b0,.string b1,.string b2] 25 (0,0))):=⟨by rw [hhm];exact blk_below HM3.out hb⟩
  have HK4 : Aside0 (w4.heap[hk]? = some (Obj.cells (zH (getM l0 b0 b1 b2) A5 c5) 37 (0,0))):=⟨by rw [hhk];exact blk_below HK3.out hb⟩
  have HCD4:=aq (Kd.C_below HCD.out hb)
  have HR4:=aq hR
  have HMD:=aq hMd
  have HWI:=aq (hMd.within (getM_fits HFT.out b0 b1 b2))
  have HSO:=aq hMd.sorted
  rw [← hhm,← hhk]
  obtain ⟨AL,cL,hv⟩:=Kd.R_slice hR
  obtain ⟨nL,hnL⟩ : ∃ nL,nL = L.length:=⟨_,rfl⟩
  rw [← hnL] at hv
  subst hv
  have HNL:=aq hnL
  have HLL : Aside0 (L.length ≤ 3 * (getM l0 b0 b1 b2).f5.length):=⟨hMd.len (Nat.le_refl _)⟩
  obtain ⟨n,hn⟩ : ∃ n,n = (getM l0 b0 b1 b2).f5.length:=⟨_,rfl⟩
  have HNN:=aq hn
  clear hb p0 p1 p2 p3 p4 q0 q1 q2 hhm hhk hR hMd hnL hn HP3 HM3 HK3 HCD
  go_wp2_with fail
  obtain ⟨rg,hrg⟩ : ∃ rg,rg = (getM l0 b0 b1 b2).f4:=⟨_,rfl⟩
  have HRG:=aq hrg
  clear hrg
  go_loopg [11] nL (fun kq v11 wr => ∃ (i : Nat),v11 = .int .i64 (i : Int) ∧ i + kq = nL ∧ Aside0 (Below w4.heap.size w4 wr))
  case atStart => exact ⟨0,rfl,by omega,⟨Below.refl _ _⟩⟩
  case round =>
   obtain ⟨i,rfl,hi,HBL⟩:=hrel
   by_cases hlt : i < nL
   ·
    have hltX : i < L.length:=by rw [← HNL.out];exact hlt
    obtain ⟨c,hcx⟩ : ∃ c,L[i]? = some c:=⟨_,List.getElem?_eq_getElem hltX⟩
    obtain ⟨g,cap,eg,hrow⟩:=row_atV (Kd.R_below HR4.out HBL.out) i hltX c hcx
    injection eg with eg e1_ e2_
    have hw:=HWI.out c (List.mem_of_getElem? hcx)
    have HPV : Aside0 (∀ j c',i = j + 1 → L[j]? = some c' → c'.f1 ≤ c.f1):=⟨fun j c' hj hc' => by
     subst hj
     obtain ⟨h1,rfl⟩:=List.getElem?_eq_some_iff.1 hc'
     obtain ⟨h2,rfl⟩:=List.getElem?_eq_some_iff.1 hcx
     exact List.pairwise_iff_getElem.1 HSO.out j (j + 1) h1 h2 (by omega)⟩
    have HEG:=aq eg
    have HROW:=aq hrow
    have HWC:=aq hw
    have hd : decide ((i : Int) < (nL : Int)) = true:=decide_eq_true (by omega)
    have hd2 : decide (i < nL) = true:=decide_eq_true (by omega)
    have hi0 : (0 : Int) ≤ (i : Int):=by omega
    have hi1 : (i : Int) < (nL : Int):=by omega
    have hi2 : (i < nL) = True:=eq_true (by omega)
    have HLT:=aq hlt
    have HLT2:=aq hltX
    obtain ⟨K1,hK1⟩ : ∃ K1,i + 1 + K1 = nL ∧ K1 < gk:=⟨gk - 1,by omega⟩
    have HGO:=aq hK1
    have HN:=aq (World.alloc_heap_new wr (Obj.cells (List.toArray ((kK 0 0 (qZ (qZ (sZ (fZ (kS ⟨#[]⟩ (mZ [.slice none 0 0]))))))))) 60))
    have HNB:=aq (below_alloc HBL.out (Obj.cells (List.toArray ((kK 0 0 (qZ (qZ (sZ (fZ (kS ⟨#[]⟩ (mZ [.slice none 0 0]))))))))) 60))
    have HNS : Aside0 (w4.heap.size ≤ wr.heap.size):=⟨HBL.out.size⟩
    subst eg
    clear hcx hrow hw hltX hK1 hi hlt e1_ e2_
    go_upto_region 10 with (first
     | (refine wpList_load_mid rfl 60 _ rfl g (i * 38) rfl ((kK c.f0 c.f1 (qL c.f2 (qL c.f3 (sL c.f4 (fL c.f5 (kS c.f6 (mL c.f7 [.slice c.f8.1 c.f8.2.1 c.f8.2.2])))))))) _ HROW.out Try.underlying60 rfl (by kernel_rfl) ?_)
     | (refine wpList_store_blk (cs':=(List.toArray ((kK c.f0 c.f1 (qL c.f2 (qL c.f3 (sL c.f4 (fL c.f5 (kS c.f6 (mL c.f7 [.slice c.f8.1 c.f8.2.1 c.f8.2.2])))))))))) HN.out 60 _ _ 0 38 ((kK c.f0 c.f1 (qL c.f2 (qL c.f3 (sL c.f4 (fL c.f5 (kS c.f6 (mL c.f7 [.slice c.f8.1 c.f8.2.1 c.f8.2.2])))))))) rfl rfl rfl rfl rfl (show 38 ≤ 38 from Nat.le_refl 38) (by kernel_rfl) rfl (by kernel_rfl) ?_;intro W2 hq hB hF _;have HQ2:=aq hq;have HB2:=aq (hB _ _ HNS.out HNB.out);clear hq hB hF)
     | fail)
    simp only [Act.put]
    generalize Value.agg (List.toArray ((kK c.f0 c.f1 (qL c.f2 (qL c.f3 (sL c.f4 (fL c.f5 (kS c.f6 (mL c.f7 [.slice c.f8.1 c.f8.2.1 c.f8.2.2]))))))))) = cv
    obtain ⟨q,hqq⟩ : ∃ q,q = wr.heap.size:=⟨_,rfl⟩
    rw [← hqq] at HQ2 ⊢
    obtain ⟨w0,w1,w2,w3,w4_⟩:=HWC.out
    obtain ⟨pc,hpc⟩ : ∃ z,z = c.f1:=⟨_,rfl⟩
    have HPC:=aq hpc
    rw [← hpc] at w0 w1
    rw [← HNN.out] at w1
    have HW3:=aq w3
    have HW4:=aq w4_
    have r1 : W2.cell? ⟨q,1,none⟩ = some (.int .i64 pc):=by rw [hpc];exact blk_cell HQ2.out 1
    have r26 : W2.cell? ⟨q,26,none⟩ = some (.string c.f4.f0.f0):=blk_cell HQ2.out 26
    have r27 : W2.cell? ⟨q,27,none⟩ = some (.string c.f4.f0.f1):=blk_cell HQ2.out 27
    have r28 : W2.cell? ⟨q,28,none⟩ = some (.string c.f4.f0.f2):=blk_cell HQ2.out 28
    rw [show c.f4.f0.f0 = b0 from by rw [w2]] at r26
    rw [show c.f4.f0.f1 = b1 from by rw [w2]] at r27
    rw [show c.f4.f0.f2 = b2 from by rw [w2]] at r28
    have s0 : W2.cell? ⟨hm,0,none⟩ = some (.string b0):=blk_cell (blk_below HM4.out HB2.out) 0
    have s1 : W2.cell? ⟨hm,1,none⟩ = some (.string b1):=blk_cell (blk_below HM4.out HB2.out) 1
    have s2 : W2.cell? ⟨hm,2,none⟩ = some (.string b2):=blk_cell (blk_below HM4.out HB2.out) 2
    have s4 : W2.cell? ⟨hk,4,none⟩ = some (.int .i64 rg):=by rw [HRG.out];exact blk_cell (blk_below HK4.out HB2.out) 4
    have s5 : W2.cell? ⟨hk,5,none⟩ = some (.slice A5 n c5):=by rw [HNN.out];exact blk_cell (blk_below HK4.out HB2.out) 5
    have d0 : decide (pc < 0) = false:=decide_eq_false (by omega)
    have d1 : decide (pc ≥ (n : Int)) = false:=decide_eq_false (by omega)
    have d2 : decide ((n : Int) ≤ pc) = false:=decide_eq_false (by omega)
    clear w0 w1 w2 w3 w4_ hqq hpc hd hd2 hi0 hi1 hi2
    go_cut [76] (fun v76 wc => v76 = .bool false ∧ ∃ nq,wc = W2.drewN nq)
    case first =>
     by_cases hz : i = 0
     ·
      have hgt : decide ((i : Int) > 0) = false:=decide_eq_false (by omega)
      have hgt2 : decide (0 < i) = false:=decide_eq_false (by omega)
      clear hz
      go_quiet (fail)
      go_wp2_with fail
      go_meet
      case rel => exact ⟨rfl,_,rfl⟩
     ·
      obtain ⟨j,hj⟩ : ∃ j,i = j + 1:=⟨i - 1,by omega⟩
      have hjX : j < L.length:=by have:=HLT2.out;omega
      obtain ⟨c',hcx⟩ : ∃ c,L[j]? = some c:=⟨_,List.getElem?_eq_getElem hjX⟩
      obtain ⟨g',cap',eg,hrow⟩:=row_atV (Kd.R_below HR4.out HB2.out) j hjX c' hcx
      have hle:=HPV.out j c' hj hcx
      injection eg with eg e1_ e2_
      obtain rfl : g = g':=by injection eg with eg;injection eg
      obtain ⟨pv,hpv⟩ : ∃ z,z = c'.f1:=⟨_,rfl⟩
      have rv : W2.cell? ⟨g,j * 38 + 1,none⟩ = some (.int .i64 pv):=by rw [hpv];exact hrow 1 _ rfl
      rw [← HPC.out,← hpv] at hle
      have d3 : decide (pc < pv) = false:=decide_eq_false (by omega)
      obtain ⟨hgt,hgt2,w1,w3,b1_,b2_,b6_⟩:=wraps_i i j nL hj HLT.out (by have h1:=HLL.out;have h2:=HZZ.out.2;have h3:=HNL.out;omega)
      clear hz hj hjX hcx hrow hle eg e1_ e2_ hpv
      go_quiet (fail)
      go_wp2_with fail
      go_meet
      case rel => exact ⟨rfl,_,rfl⟩
    case rest =>
     obtain ⟨rfl,nq,rfl⟩:=hcut
     clear r1 r26 r27 r28 s5 d0 d1 d2
     have HBW : Aside0 (Below w4.heap.size w4 (W2.drewN nq)):=⟨pw_below_drewN HB2.out nq⟩
     have r2 : W2.cell? ⟨q,2,none⟩ = some (.int .i64 c.f2.f0):=blk_cell HQ2.out 2
     have r14 : W2.cell? ⟨q,14,none⟩ = some (.int .i64 c.f3.f0):=blk_cell HQ2.out 14
     by_cases kf2 : c.f2.f0 = 1
     ·
      obtain ⟨h1,h2⟩:=HW3.out kf2
      have ef2 : (c.f2.f0 == 1) = true:=by rw [kf2];rfl
      have t3 : W2.cell? ⟨q,3,none⟩ = some (.string c.f2.f1.f0):=blk_cell HQ2.out 3
      rw [show c.f2.f1.f0 = b0 from by rw [h1]] at t3
      have t4 : W2.cell? ⟨q,4,none⟩ = some (.string c.f2.f1.f1):=blk_cell HQ2.out 4
      rw [show c.f2.f1.f1 = b1 from by rw [h1]] at t4
      have t5 : W2.cell? ⟨q,5,none⟩ = some (.string c.f2.f1.f2):=blk_cell HQ2.out 5
      rw [show c.f2.f1.f2 = b2 from by rw [h1]] at t5
      obtain ⟨xf2,hxf2⟩ : ∃ z,z = c.f2.f2:=⟨_,rfl⟩
      have t6 : W2.cell? ⟨q,6,none⟩ = some (.int .i64 xf2):=by rw [hxf2];exact blk_cell HQ2.out 6
      rw [← hxf2] at h2
      obtain ⟨h2,h3⟩:=h2
      rw [← HRG.out] at h3
      have lf20 : decide (xf2 < 0) = false:=decide_eq_false (by omega)
      have lf21 : decide (xf2 ≥ rg) = false:=decide_eq_false (by omega)
      have lf22 : decide (rg ≤ xf2) = false:=decide_eq_false (by omega)
      clear h1 h2 h3 hxf2 kf2
      by_cases kf3 : c.f3.f0 = 1
      ·
       obtain ⟨h1,h2⟩:=HW4.out kf3
       have ef3 : (c.f3.f0 == 1) = true:=by rw [kf3];rfl
       have t15 : W2.cell? ⟨q,15,none⟩ = some (.string c.f3.f1.f0):=blk_cell HQ2.out 15
       rw [show c.f3.f1.f0 = b0 from by rw [h1]] at t15
       have t16 : W2.cell? ⟨q,16,none⟩ = some (.string c.f3.f1.f1):=blk_cell HQ2.out 16
       rw [show c.f3.f1.f1 = b1 from by rw [h1]] at t16
       have t17 : W2.cell? ⟨q,17,none⟩ = some (.string c.f3.f1.f2):=blk_cell HQ2.out 17
       rw [show c.f3.f1.f2 = b2 from by rw [h1]] at t17
       obtain ⟨xf3,hxf3⟩ : ∃ z,z = c.f3.f2:=⟨_,rfl⟩
       have t18 : W2.cell? ⟨q,18,none⟩ = some (.int .i64 xf3):=by rw [hxf3];exact blk_cell HQ2.out 18
       rw [← hxf3] at h2
       obtain ⟨h2,h3⟩:=h2
       rw [← HRG.out] at h3
       have lf30 : decide (xf3 < 0) = false:=decide_eq_false (by omega)
       have lf31 : decide (xf3 ≥ rg) = false:=decide_eq_false (by omega)
       have lf32 : decide (rg ≤ xf3) = false:=decide_eq_false (by omega)
       clear h1 h2 h3 hxf3 kf3
       go_wp2_with fail
       go_roundg K1
       case measure => exact HGO.out.2
       case rel => exact ⟨i + 1,by rw [show wrap64 ((i : Int) + 1) = ((i + 1 : Nat) : Int) from wrap_nextQ i nL HLT.out (by have h1:=HLL.out;have h2:=HZZ.out.2;have h3:=HNL.out;omega)],HGO.out.1,HBW⟩
      ·
       have ef3 : (c.f3.f0 == 1) = false:=by
        rw [beq_eq_false_iff_ne]
        exact kf3
       clear kf3
       go_wp2_with fail
       go_roundg K1
       case measure => exact HGO.out.2
       case rel => exact ⟨i + 1,by rw [show wrap64 ((i : Int) + 1) = ((i + 1 : Nat) : Int) from wrap_nextQ i nL HLT.out (by have h1:=HLL.out;have h2:=HZZ.out.2;have h3:=HNL.out;omega)],HGO.out.1,HBW⟩
     ·
      have ef2 : (c.f2.f0 == 1) = false:=by
       rw [beq_eq_false_iff_ne]
       exact kf2
      clear kf2
      by_cases kf3 : c.f3.f0 = 1
      ·
       obtain ⟨h1,h2⟩:=HW4.out kf3
       have ef3 : (c.f3.f0 == 1) = true:=by rw [kf3];rfl
       have t15 : W2.cell? ⟨q,15,none⟩ = some (.string c.f3.f1.f0):=blk_cell HQ2.out 15
       rw [show c.f3.f1.f0 = b0 from by rw [h1]] at t15
       have t16 : W2.cell? ⟨q,16,none⟩ = some (.string c.f3.f1.f1):=blk_cell HQ2.out 16
       rw [show c.f3.f1.f1 = b1 from by rw [h1]] at t16
       have t17 : W2.cell? ⟨q,17,none⟩ = some (.string c.f3.f1.f2):=blk_cell HQ2.out 17
       rw [show c.f3.f1.f2 = b2 from by rw [h1]] at t17
       obtain ⟨xf3,hxf3⟩ : ∃ z,z = c.f3.f2:=⟨_,rfl⟩
       have t18 : W2.cell? ⟨q,18,none⟩ = some (.int .i64 xf3):=by rw [hxf3];exact blk_cell HQ2.out 18
       rw [← hxf3] at h2
       obtain ⟨h2,h3⟩:=h2
       rw [← HRG.out] at h3
       have lf30 : decide (xf3 < 0) = false:=decide_eq_false (by omega)
       have lf31 : decide (xf3 ≥ rg) = false:=decide_eq_false (by omega)
       have lf32 : decide (rg ≤ xf3) = false:=decide_eq_false (by omega)
       clear h1 h2 h3 hxf3 kf3
       go_wp2_with fail
       go_roundg K1
       case measure => exact HGO.out.2
       case rel => exact ⟨i + 1,by rw [show wrap64 ((i : Int) + 1) = ((i + 1 : Nat) : Int) from wrap_nextQ i nL HLT.out (by have h1:=HLL.out;have h2:=HZZ.out.2;have h3:=HNL.out;omega)],HGO.out.1,HBW⟩
      ·
       have ef3 : (c.f3.f0 == 1) = false:=by
        rw [beq_eq_false_iff_ne]
        exact kf3
       clear kf3
       go_wp2_with fail
       go_roundg K1
       case measure => exact HGO.out.2
       case rel => exact ⟨i + 1,by rw [show wrap64 ((i : Int) + 1) = ((i + 1 : Nat) : Int) from wrap_nextQ i nL HLT.out (by have h1:=HLL.out;have h2:=HZZ.out.2;have h3:=HNL.out;omega)],HGO.out.1,HBW⟩
   ·
    have hd : decide ((i : Int) < (nL : Int)) = false:=decide_eq_false (by omega)
    have hd2 : decide (i < nL) = false:=decide_eq_false (by omega)
    have HBE:=aq (below_step HB4.out HBL.out)
    clear hlt hi
    go_wp2_with fail
    refine (gen_live wr).mono ?_
    rintro e w6 ⟨rfl,hb⟩
    have HBF:=aq (below_step HBE.out hb)
    clear hb
    go_wp2_with fail
    exact bodyPost_ret (results_tmp rfl _ _ _) rfl ⟨rfl,HBF.out⟩
theorem GenWithin_all (P : Nat → Prop) (A0 : Option Addr) (c0 : Nat) (l0 : List S33) (A1 : Option Addr) (c1 : Nat) (l1 : List ByteArray) (a2 a3 a4 : ByteArray) (px py : Int) (w : World) (hs : Kd.F k33 w P A0 l0.length l0) (hc : l0.length ≤ c0) (hr1 : Kd.C Kd.string w A1 l1.length l1) (hc1 : l1.length ≤ c1) (hM : MaxL w) (hq : ∀ x ∈ l0, Op.QClass x) (hs_ : l0.length ≤ 140737488351232 ∧ l1.length ≤ 140737488351232 ∧ a2.size ≤ 140737488351232 ∧ a3.size ≤ 140737488351232) (hx : 0 ≤ px ∧ px < 256) (hy : 0 ≤ py ∧ py < 256) :
  Calls Try.prog 6 #[.agg (pG A0 l0 c0 A1 l1 c1 a2 a3 a4),.int .u8 px,.int .u8 py] w fun e w' => e = .returned (.bool true) ∧ Below w.heap.size w w':=by
 refine GenWithin_go P A0 c0 l0 A1 c1 l1 a2 a3 a4 px py w hs hc hr1 hc1 hM hx hy (fun h b0 b1 b2 => ?_) hq hs_
 obtain ⟨q1,q2⟩:=h
 obtain ⟨m1,m2⟩:=getM_ok q2 b0 b1 b2
 refine ⟨fun x hx => ?_,m1⟩
 obtain ⟨i1,i2,i3,i4⟩:=m2 x hx
 exact ⟨by omega,fun c hc => by have:=(q2 c hc).2.1;omega,by omega,by omega,by omega⟩
end Go.Proofs.Ytfplcohjnlbfjaa.HandV
end
