import Derived.Test.YtfplcohjnlbfjaaMgGenSets1
import Derived.Test.YtfplcohjnlbfjaaMgGenSets3
set_option linter.unusedVariables false
set_option linter.unusedSimpArgs false
set_option maxHeartbeats 64000000
set_option maxRecDepth 100000
section
namespace Go.Proofs.Ytfplcohjnlbfjaa.Q52
open Go.RowKit Go.Proofs.YtfplcohjnlbfjaaW
open PrintWords PrintLast PrintMore Go.Proofs.Ytfplcohjnlbfjaa.Hand
attribute [local go_sem] max2_int min2_int max_two min_two max_three min_three max_four min_four
mutual
def sr11_Supers.l0 : Nat → List ByteArray → Int → List (S33) → List ByteArray → ByteArray → ByteArray → ByteArray → Option (List ByteArray)
  | 0,_,_,_,_,_,_,_ => none
  | k + 1,x5,x6,x110000,x110001,x110002,x110003,x110004 => if x6 ≥ 0 then (if 0 ≤ x6 then (if x6 < (x110000.length : Int) then ((sr11_in.f k x5 ((rd_T33 x110000 x6).f0)).bind fun t112 => (sr11_Supers.j1 k x5 x6 (!t112) x110000 x110001 x110002 x110003 x110004)) else (none)) else (none)) else (sr11_Supers.j1 k x5 x6 false x110000 x110001 x110002 x110003 x110004)
def sr11_Supers.j1 : Nat → List ByteArray → Int → Bool → List (S33) → List ByteArray → ByteArray → ByteArray → ByteArray → Option (List ByteArray)
  | 0,_,_,_,_,_,_,_,_ => none
  | k + 1,x5,x6,x22,x110000,x110001,x110002,x110003,x110004 => if x22 = true then (if 0 ≤ x6 then (if x6 < (x110000.length : Int) then (if x5.length < 8796093022208 then ((some (x5 ++ [(rd_T33 x110000 x6).f0] : List ByteArray)).bind fun y114 => (if ((rd_T33 x110000 x6).f1).toList = ([] : List UInt8) then (some y114) else ((sr08_Class.f k x110000 x110001 x110002 x110003 x110004 ((rd_T33 x110000 x6).f1)).bind fun t119 => (sr11_Supers.l0 k y114 t119 x110000 x110001 x110002 x110003 x110004)))) else (none)) else (none)) else (none)) else (some x5)
end
def sr11_Supers.f (k : Nat) (l0_0 : List (S33)) (l0_1 : List ByteArray) (a0_2 : ByteArray) (a0_3 : ByteArray) (a0_4 : ByteArray) (a1 : ByteArray) : Option (List ByteArray) := (sr08_Class.f k l0_0 l0_1 a0_2 a0_3 a0_4 a1).bind fun t110 => (sr11_Supers.l0 k ([] : List ByteArray) t110 l0_0 l0_1 a0_2 a0_3 a0_4)
def sr11_Supers.T4 : Bool × List (List Nat × List Nat) := (true, [([], []), ([], []), ([1], [1]), ([], []), ([2, 3], [2, 3]), ([4], [4]), ([5], [5]), ([0, 6], [0, 6]), ([7, 7, 0, 1, 2, 3, 4, 5, 6, 7], [3, 7])])
def sr11_Supers.B4 : List Nat := [0, 0, 2, 0, 14, 30, 62, 127, 255]
theorem sr11_Supers.tab4 : rtab .any (opsOf Try.f79 4) = sr11_Supers.T4 := by kernel_rfl
theorem sr11_Supers.bits4 : waitsOk sr11_Supers.T4.2 sr11_Supers.B4 = true := by kernel_rfl
theorem sr11_Supers.calls (k : Nat) (A0_0 : Option Addr) (c0_0 : Nat) (l0_0 : List (S33)) (A0_1 : Option Addr) (c0_1 : Nat) (l0_1 : List ByteArray) (a0_2 : ByteArray) (a0_3 : ByteArray) (a0_4 : ByteArray) (a1 : ByteArray) (r : List ByteArray) (w : World) (hr0_0 : Kd.C k33 w A0_0 l0_0.length l0_0) (hc0_0 : l0_0.length ≤ c0_0) (hr0_1 : Kd.C Kd.string w A0_1 l0_1.length l0_1) (hc0_1 : l0_1.length ≤ c0_1) (h : sr11_Supers.f k l0_0 l0_1 a0_2 a0_3 a0_4 a1 = some r) :
    Calls Try.prog 79 #[.agg #[.slice A0_0 l0_0.length c0_0,.slice A0_1 l0_1.length c0_1,.string a0_2,.string a0_3,.string a0_4],.string a1] w fun e w' => ∃ v0_ : Value,e = .returned (v0_) ∧ Kd.R Kd.string 9 w' w.heap.size (fun _ => True) v0_ r ∧ Below w.heap.size w w':=by
 have hu27:=Try.underlying27
 have HR0_0:=aq hr0_0
 have HC0_0:=aq hc0_0
 clear hr0_0 hc0_0
 have HR0_1:=aq hr0_1
 have HC0_1:=aq hc0_1
 clear hr0_1 hc0_1
 have HB:=aq (Below.refl w.heap.size w)
 have H : ((sr08_Class.f k l0_0 l0_1 a0_2 a0_3 a0_4 a1).bind fun t110 => (sr11_Supers.l0 k ([] : List ByteArray) t110 l0_0 l0_1 a0_2 a0_3 a0_4)) = some r:=h
 clear h
 replace H:=Option.bind_eq_some_iff.mp H
 obtain ⟨t110,A30,H⟩:=H
 have A3:=aq A30
 clear A30
 have H':=aq H
 clear H
 go_enter Try.func79,Try.ntmps79
 go_wp2_with (first|((with_reducible refine gate_dst (N:=2) rfl ?_);refine box_event rfl (N:=2) rfl (cs:=#[.slice A0_0 l0_0.length c0_0,.slice A0_1 l0_1.length c0_1,.string a0_2,.string a0_3,.string a0_4]) (t:=27) gS ?_;intro gb109 hg w4 hbox hb;have BK109:=aq (hbox);have GE109:=aq ((GN hg : w.heap.size ≤ gb109));replace HB:=aq (below_step bH hb);clear hb hbox hg;have hcz5_0 : w4.cell? ⟨gb109,0,none⟩ = some (.slice A0_0 l0_0.length c0_0):=(blk_cell BK109.out 0).trans rfl;have hcz5_1 : w4.cell? ⟨gb109,1,none⟩ = some (.slice A0_1 l0_1.length c0_1):=(blk_cell BK109.out 1).trans rfl;have hcz5_2 : w4.cell? ⟨gb109,2,none⟩ = some (.string a0_2):=(blk_cell BK109.out 2).trans rfl;have hcz5_3 : w4.cell? ⟨gb109,3,none⟩ = some (.string a0_3):=(blk_cell BK109.out 3).trans rfl;have hcz5_4 : w4.cell? ⟨gb109,4,none⟩ = some (.string a0_4):=(blk_cell BK109.out 4).trans rfl;have hfz5_0:=blk_frozen BK109.out 0;have hfz5_1:=blk_frozen BK109.out 1;have hfz5_2:=blk_frozen BK109.out 2;have hfz5_3:=blk_frozen BK109.out 3;have hfz5_4:=blk_frozen BK109.out 4)|((with_reducible refine gate_callee (f:=68) rfl ?_);refine goesL_ (some 9) rfl rfl Try.func68 (by kernel_rfl) rfl #[.agg #[.slice A0_0 l0_0.length c0_0,.slice A0_1 l0_1.length c0_1,.string a0_2,.string a0_3,.string a0_4],.string a1] rfl eA ?_;(with_reducible refine (sr08_Class.calls k _ _ l0_0 _ _ l0_1 a0_2 a0_3 a0_4 a1 t110 _ ?side1 ?side2 ?side3 ?side4 A3.out).mono ?_);(case side1 => exact CU HR0_0);(case side2 => exact HC0_0.out);(case side3 => exact CU HR0_1);(case side4 => exact HC0_1.out);rintro e w6 ⟨rfl,hb⟩;refine ⟨_,rfl,?_⟩;replace BK109:=KN BK109 hb;replace HB:=aq (below_step bH hb);(try clear hb);(try clear hb2);(try clear hk);(try clear hi)))
 go_loopg [5,6] k (fun kq v5 v6 w' => ∃ (x5_1 : List ByteArray) (x6_1 : Int),v6 = .int .i64 x6_1 ∧ Aside0 (sr11_Supers.l0 kq x5_1 x6_1 l0_0 l0_1 a0_2 a0_3 a0_4 = some r) ∧ Aside0 (kq ≤ k) ∧ Aside0 (Kd.R Kd.string 9 w' w.heap.size (fun _ => True) v5 x5_1) ∧ Aside0 (w'.heap[gb109]? = some (.cells #[(.slice A0_0 l0_0.length c0_0),(.slice A0_1 l0_1.length c0_1),.string a0_2,.string a0_3,.string a0_4] 27 (0,0))) ∧ Aside0 (Below w.heap.size w w'))
 case atStart => exact ⟨(([] : List ByteArray)),(t110),eS,H',⟨Nat.le_refl _⟩,⟨by first|exact Kd.R_nil _ _ _ _ _|exact Kd.N_nil _ _ _ _ _|exact Kd.V_nil _ _ _ _ _|exact Kd.Q_nil _ _ _ _ _|exact Kd.S_nil _ _ _ _ _⟩,⟨KU BK109.out⟩,⟨bH⟩⟩
 case round =>
 clear H'
 (try clear hcz5_0);(try clear hcz5_1);(try clear hcz5_2);(try clear hcz5_3);(try clear hcz5_4);(try clear hfz5_0);(try clear hfz5_1);(try clear hfz5_2);(try clear hfz5_3);(try clear hfz5_4)
 obtain ⟨x5_1,x6_1,rfl,HA,HK1,HO_5,BK109,HB⟩:=hrel
 cases gk with
 | zero => exact absurd HA.out (by simp [sr11_Supers.l0])
 | succ k1 =>
 have H:=HA.out
 clear HA
 simp only [sr11_Supers.l0] at H
 have HC7:=aq H
 clear H
 go_upto_region 3 with (fail)
 go_cut [22] (fun v22 wc => ∃ (kq : Nat) (x22_6 : Bool),v22 = .bool x22_6 ∧ Aside0 (sr11_Supers.j1 kq x5_1 x6_1 x22_6 l0_0 l0_1 a0_2 a0_3 a0_4 = some r) ∧ Aside0 (kq ≤ k1) ∧ Aside0 (Kd.R Kd.string 9 wc w.heap.size (fun _ => True) u5 x5_1) ∧ Aside0 (wc.heap[gb109]? = some (.cells #[(.slice A0_0 l0_0.length c0_0),(.slice A0_1 l0_1.length c0_1),.string a0_2,.string a0_3,.string a0_4] 27 (0,0))) ∧ Aside0 (Below w.heap.size w wc))
 case first =>
  have H:=HC7.out
  clear HC7
  by_cases c8 : x6_1 ≥ 0
  rotate_left
  · rw [if_neg c8] at H
    have c8b0 : decide (0 ≤ x6_1) = false:=decide_eq_false c8
    clear c8
    (first|rw [c8b0]|rw [c8b1]|(simp only [i64_w,i32_w];rw [c8b0])|skip)
    have H':=aq H
    clear H
    go_wp2
    go_meet
    case rel => exact ⟨_,(false),eS,H',⟨by have:=HK1.out;first|omega|exact Nat.le_refl _⟩,⟨by (with_reducible repeat (first|apply Kd.R_alloc|apply Kd.R_drewN|apply Kd.R_drew));exact HO_5.out⟩,⟨KU BK109.out⟩,⟨bH⟩⟩
  rw [if_pos c8] at H
  have c8b0 : decide (0 ≤ x6_1) = true:=decide_eq_true c8
  clear c8
  (first|rw [c8b0]|rw [c8b1]|(simp only [i64_w,i32_w];rw [c8b0])|skip)
  by_cases c9 : 0 ≤ x6_1
  rotate_left
  · rw [if_neg c9] at H
    exact absurd H (by simp)
  rw [if_pos c9] at H
  have c9b0 : decide (0 ≤ x6_1) = true:=decide_eq_true c9
  clear c9
  by_cases c10 : x6_1 < (l0_0.length : Int)
  rotate_left
  · rw [if_neg c10] at H
    exact absurd H (by simp)
  rw [if_pos c10] at H
  have c10b0 : decide (x6_1 < (l0_0.length : Int)) = true:=decide_eq_true c10
  clear c10
  replace H:=Option.bind_eq_some_iff.mp H
  obtain ⟨t112,A110,H⟩:=H
  have A11:=aq A110
  clear A110
  have H':=aq H
  clear H
  have hcz12_0 : wr.cell? ⟨gb109,0,none⟩ = some (.slice A0_0 l0_0.length c0_0):=(blk_cell BK109.out 0).trans rfl
  have hcz12_1 : wr.cell? ⟨gb109,1,none⟩ = some (.slice A0_1 l0_1.length c0_1):=(blk_cell BK109.out 1).trans rfl
  have hcz12_2 : wr.cell? ⟨gb109,2,none⟩ = some (.string a0_2):=(blk_cell BK109.out 2).trans rfl
  have hcz12_3 : wr.cell? ⟨gb109,3,none⟩ = some (.string a0_3):=(blk_cell BK109.out 3).trans rfl
  have hcz12_4 : wr.cell? ⟨gb109,4,none⟩ = some (.string a0_4):=(blk_cell BK109.out 4).trans rfl
  have hfz12_0:=blk_frozen BK109.out 0
  have hfz12_1:=blk_frozen BK109.out 1
  have hfz12_2:=blk_frozen BK109.out 2
  have hfz12_3:=blk_frozen BK109.out 3
  have hfz12_4:=blk_frozen BK109.out 4
  have p111 : 0 ≤ (x6_1 : Int):=of_decide_eq_true aS
  have q111 : x6_1 < (l0_0.length : Int):=of_decide_eq_true aS
  obtain ⟨ad111,A111_4,c111_4,A111_5,c111_5,A111_6,c111_6,e111,hx111_0,hx111_1,hx111_2,hx111_3,hx111_4,hx111_5,hx111_6,hl111_4,hi111_4,hl111_5,hi111_5,hl111_6,hi111_6⟩:=at_T33 HR0_0.out x6_1 p111 q111
  cases e111
  replace hx111_0:=(HB.out.cell (World.block_lt_of_cell? w _ hx111_0)).trans hx111_0
  replace hx111_1:=(HB.out.cell (World.block_lt_of_cell? w _ hx111_1)).trans hx111_1
  replace hx111_2:=(HB.out.cell (World.block_lt_of_cell? w _ hx111_2)).trans hx111_2
  replace hx111_3:=(HB.out.cell (World.block_lt_of_cell? w _ hx111_3)).trans hx111_3
  replace hx111_4:=(HB.out.cell (World.block_lt_of_cell? w _ hx111_4)).trans hx111_4
  replace hx111_5:=(HB.out.cell (World.block_lt_of_cell? w _ hx111_5)).trans hx111_5
  replace hx111_6:=(HB.out.cell (World.block_lt_of_cell? w _ hx111_6)).trans hx111_6
  have HR111_4:=aq hi111_4
  have HC111_4:=aq hl111_4
  clear hi111_4 hl111_4
  have HR111_5:=aq hi111_5
  have HC111_5:=aq hl111_5
  clear hi111_5 hl111_5
  have HR111_6:=aq hi111_6
  have HC111_6:=aq hl111_6
  clear hi111_6 hl111_6
  replace p111:=eq_true p111
  replace q111:=eq_true q111
  obtain ⟨Ao13,co13,eo13⟩:=Kd.R_slice HO_5.out
  subst eo13
  go_wp2_with (first|(go_at_call 94;(with_reducible refine (sr11_in.calls k1 _ _ x5_1 ((rd_T33 l0_0 x6_1).f0) t112 _ ?side1 ?side2 A11.out).mono ?_);(case side1 => repeat (first|exact (Kd.R_reads' HO_5.out).2.2|(with_reducible refine Kd.C_alloc ?_ _)|(with_reducible refine Kd.C_drewN ?_ _)|(with_reducible refine Kd.C_drew ?_)));(case side2 => exact (Kd.R_reads' HO_5.out).2.1);rintro e w' ⟨rfl,⟨nd,rfl⟩⟩))
  go_meet
  case rel => exact ⟨_,(!t112),eS,H',⟨by have:=HK1.out;first|omega|exact Nat.le_refl _⟩,⟨by (with_reducible repeat (first|apply Kd.R_alloc|apply Kd.R_drewN|apply Kd.R_drew));exact HO_5.out⟩,⟨KU BK109.out⟩,⟨bH⟩⟩
 case rest =>
 clear HC7
 (try clear hcz5_0);(try clear hcz5_1);(try clear hcz5_2);(try clear hcz5_3);(try clear hcz5_4);(try clear hfz5_0);(try clear hfz5_1);(try clear hfz5_2);(try clear hfz5_3);(try clear hfz5_4)
 obtain ⟨kq,x22_6,rfl,HA,HJ6,HO_5,BK109,HB⟩:=hcut
 cases kq with
 | zero => exact absurd HA.out (by simp [sr11_Supers.j1])
 | succ kj6 =>
 have H:=HA.out
 clear HA
 simp only [sr11_Supers.j1] at H
 by_cases c14 : x22_6 = true
 rotate_left
 · replace c14:=Bool.eq_false_iff.mpr c14
   subst c14
   have H1 : (some x5_1) = some r:=by rw [if_neg (show ¬ (false = true) by decide)] at H;exact H
   clear H
   have H:=H1
   clear H1
   obtain rfl:=Option.some.inj H
   go_wp2
   go_ret
   exact ⟨_,eR,by (with_reducible repeat (first|apply Kd.R_alloc|apply Kd.R_drewN|apply Kd.R_drew));exact HO_5.out,bH⟩
 subst c14
 have H1 : (if 0 ≤ x6_1 then (if x6_1 < (l0_0.length : Int) then (if x5_1.length < 8796093022208 then ((some (x5_1 ++ [(rd_T33 l0_0 x6_1).f0] : List ByteArray)).bind fun y114 => (if ((rd_T33 l0_0 x6_1).f1).toList = ([] : List UInt8) then (some y114) else ((sr08_Class.f kj6 l0_0 l0_1 a0_2 a0_3 a0_4 ((rd_T33 l0_0 x6_1).f1)).bind fun t119 => (sr11_Supers.l0 kj6 y114 t119 l0_0 l0_1 a0_2 a0_3 a0_4)))) else (none)) else (none)) else (none)) = some r:=by rw [if_pos rfl] at H;exact H
 clear H
 have H:=H1
 clear H1
 by_cases c15 : 0 ≤ x6_1
 rotate_left
 · rw [if_neg c15] at H
   exact absurd H (by simp)
 rw [if_pos c15] at H
 have c15b0 : decide (0 ≤ x6_1) = true:=decide_eq_true c15
 clear c15
 by_cases c16 : x6_1 < (l0_0.length : Int)
 rotate_left
 · rw [if_neg c16] at H
   exact absurd H (by simp)
 rw [if_pos c16] at H
 have c16b0 : decide (x6_1 < (l0_0.length : Int)) = true:=decide_eq_true c16
 clear c16
 by_cases c17 : x5_1.length < 8796093022208
 rotate_left
 · rw [if_neg c17] at H
   exact absurd H (by simp)
 rw [if_pos c17] at H
 have LMc17:=aq c17
 clear c17
 obtain ⟨y114,hy114⟩ : ∃ y_ : List ByteArray,y_ = (x5_1 ++ [(rd_T33 l0_0 x6_1).f0]):=⟨_,rfl⟩
 replace H : (if ((rd_T33 l0_0 x6_1).f1).toList = ([] : List UInt8) then (some y114) else ((sr08_Class.f kj6 l0_0 l0_1 a0_2 a0_3 a0_4 ((rd_T33 l0_0 x6_1).f1)).bind fun t119 => (sr11_Supers.l0 kj6 y114 t119 l0_0 l0_1 a0_2 a0_3 a0_4))) = some r:=by first|(rw [hy114];with_reducible exact H)|(have H2_:=(Option.bind_some _ _).symm.trans H;rw [hy114];with_reducible exact H2_)|(have H2_:=(Option.bind_some _ _).symm.trans H;with_reducible exact H2_)|with_reducible exact H|(rw [hy114];exact H)|exact H
 have Ny114:=aq hy114
 clear hy114
 by_cases c18 : ((rd_T33 l0_0 x6_1).f1).toList = ([] : List UInt8)
 · rw [if_pos c18] at H
   have c18b0 : (((rd_T33 l0_0 x6_1).f1).toList == ([] : List UInt8)) = true:=beq_iff_eq.mpr c18
   have c18b1 : (((rd_T33 l0_0 x6_1).f1).toList != ([] : List UInt8)) = false:=bne_eq_false_iff_eq.mpr c18
   clear c18
   obtain rfl:=Option.some.inj H
   have hcz19_0 : wc.cell? ⟨gb109,0,none⟩ = some (.slice A0_0 l0_0.length c0_0):=(blk_cell BK109.out 0).trans rfl
   have hcz19_1 : wc.cell? ⟨gb109,1,none⟩ = some (.slice A0_1 l0_1.length c0_1):=(blk_cell BK109.out 1).trans rfl
   have hcz19_2 : wc.cell? ⟨gb109,2,none⟩ = some (.string a0_2):=(blk_cell BK109.out 2).trans rfl
   have hcz19_3 : wc.cell? ⟨gb109,3,none⟩ = some (.string a0_3):=(blk_cell BK109.out 3).trans rfl
   have hcz19_4 : wc.cell? ⟨gb109,4,none⟩ = some (.string a0_4):=(blk_cell BK109.out 4).trans rfl
   have hfz19_0:=blk_frozen BK109.out 0
   have hfz19_1:=blk_frozen BK109.out 1
   have hfz19_2:=blk_frozen BK109.out 2
   have hfz19_3:=blk_frozen BK109.out 3
   have hfz19_4:=blk_frozen BK109.out 4
   have p113 : 0 ≤ (x6_1 : Int):=of_decide_eq_true aS
   have q113 : x6_1 < (l0_0.length : Int):=of_decide_eq_true aS
   obtain ⟨ad113,A113_4,c113_4,A113_5,c113_5,A113_6,c113_6,e113,hx113_0,hx113_1,hx113_2,hx113_3,hx113_4,hx113_5,hx113_6,hl113_4,hi113_4,hl113_5,hi113_5,hl113_6,hi113_6⟩:=at_T33 HR0_0.out x6_1 p113 q113
   cases e113
   replace hx113_0:=(HB.out.cell (World.block_lt_of_cell? w _ hx113_0)).trans hx113_0
   replace hx113_1:=(HB.out.cell (World.block_lt_of_cell? w _ hx113_1)).trans hx113_1
   replace hx113_2:=(HB.out.cell (World.block_lt_of_cell? w _ hx113_2)).trans hx113_2
   replace hx113_3:=(HB.out.cell (World.block_lt_of_cell? w _ hx113_3)).trans hx113_3
   replace hx113_4:=(HB.out.cell (World.block_lt_of_cell? w _ hx113_4)).trans hx113_4
   replace hx113_5:=(HB.out.cell (World.block_lt_of_cell? w _ hx113_5)).trans hx113_5
   replace hx113_6:=(HB.out.cell (World.block_lt_of_cell? w _ hx113_6)).trans hx113_6
   have HR113_4:=aq hi113_4
   have HC113_4:=aq hl113_4
   clear hi113_4 hl113_4
   have HR113_5:=aq hi113_5
   have HC113_5:=aq hl113_5
   clear hi113_5 hl113_5
   have HR113_6:=aq hi113_6
   have HC113_6:=aq hl113_6
   clear hi113_6 hl113_6
   replace p113:=eq_true p113
   replace q113:=eq_true q113
   go_wp2_with (first|((with_reducible refine gate_builtin (b:=.append) (xs:=#[.tmp 31,.tmp 38]) rfl ?_);at_builtin;refine Kd.R_append Kd.string (w0:=w) w.heap.size rfl (.tmp 31) (.tmp 38) 23 9 (.string ⟨#[]⟩) 16 rfl Try.underlying23 info9 rfl (by decide) (by omega) u5 x5_1 ((rd_T33 l0_0 x6_1).f0) [.string ((rd_T33 l0_0 x6_1).f0)] (fun _ => True) (fun _ => False) rfl rfl ?aP (fun _ hk => hk.elim) ?aF ?aO ?aB ?aS ?aL ?_;(case aP => exact rfl);(case aB => exact bH);(case aF => exact (fun _ _ => trivial));(case aO => exact (RU HO_5.out));(case aS => exact (below_size bH));(case aL => have:=LMc17.out;omega);intro v115 w20 ho hb hg hat;rw [← Ny114.out] at ho;have n0_:=aq (blk_grown (g:=gb109) (o:=.cells #[.slice (some ad113) l0_0.length c0_0,.slice A0_1 l0_1.length c0_1,.string a0_2,.string a0_3,.string a0_4] 27 (0,0)) (KU BK109.out) hg (Kd.R_ne HO_5.out BK109.out (by decide)));have n1_:=aq (hb);have n2_:=aq (ho);clear BK109;clear HB;clear HO_5;have BK109:=n0_;have HB:=n1_;have HO116:=n2_;clear n0_ n1_ n2_;clear ho hb hg hat;have hcz21_0 : w20.cell? ⟨gb109,0,none⟩ = some (.slice (some ad113) l0_0.length c0_0):=(blk_cell BK109.out 0).trans rfl;have hcz21_1 : w20.cell? ⟨gb109,1,none⟩ = some (.slice A0_1 l0_1.length c0_1):=(blk_cell BK109.out 1).trans rfl;have hcz21_2 : w20.cell? ⟨gb109,2,none⟩ = some (.string a0_2):=(blk_cell BK109.out 2).trans rfl;have hcz21_3 : w20.cell? ⟨gb109,3,none⟩ = some (.string a0_3):=(blk_cell BK109.out 3).trans rfl;have hcz21_4 : w20.cell? ⟨gb109,4,none⟩ = some (.string a0_4):=(blk_cell BK109.out 4).trans rfl;have hfz21_0:=blk_frozen BK109.out 0;have hfz21_1:=blk_frozen BK109.out 1;have hfz21_2:=blk_frozen BK109.out 2;have hfz21_3:=blk_frozen BK109.out 3;have hfz21_4:=blk_frozen BK109.out 4;have p117 : 0 ≤ (x6_1 : Int):=of_decide_eq_true aS;have q117 : x6_1 < (l0_0.length : Int):=of_decide_eq_true aS;obtain ⟨ad117,A117_4,c117_4,A117_5,c117_5,A117_6,c117_6,e117,hx117_0,hx117_1,hx117_2,hx117_3,hx117_4,hx117_5,hx117_6,hl117_4,hi117_4,hl117_5,hi117_5,hl117_6,hi117_6⟩:=at_T33 HR0_0.out x6_1 p117 q117;obtain rfl : ad113 = ad117:=(by injection e117);replace hx117_0:=(HB.out.cell (World.block_lt_of_cell? w _ hx117_0)).trans hx117_0;replace hx117_1:=(HB.out.cell (World.block_lt_of_cell? w _ hx117_1)).trans hx117_1;replace hx117_2:=(HB.out.cell (World.block_lt_of_cell? w _ hx117_2)).trans hx117_2;replace hx117_3:=(HB.out.cell (World.block_lt_of_cell? w _ hx117_3)).trans hx117_3;replace hx117_4:=(HB.out.cell (World.block_lt_of_cell? w _ hx117_4)).trans hx117_4;replace hx117_5:=(HB.out.cell (World.block_lt_of_cell? w _ hx117_5)).trans hx117_5;replace hx117_6:=(HB.out.cell (World.block_lt_of_cell? w _ hx117_6)).trans hx117_6;have HR117_4:=aq hi117_4;have HC117_4:=aq hl117_4;clear hi117_4 hl117_4;have HR117_5:=aq hi117_5;have HC117_5:=aq hl117_5;clear hi117_5 hl117_5;have HR117_6:=aq hi117_6;have HC117_6:=aq hl117_6;clear hi117_6 hl117_6;replace p117:=eq_true p117;replace q117:=eq_true q117))
   go_ret
   exact ⟨_,eR,by (with_reducible repeat (first|apply Kd.R_alloc|apply Kd.R_drewN|apply Kd.R_drew));exact HO116.out,bH⟩
 rw [if_neg c18] at H
 have c18b0 : (((rd_T33 l0_0 x6_1).f1).toList == ([] : List UInt8)) = false:=beq_eq_false_iff_ne.mpr c18
 have c18b1 : (((rd_T33 l0_0 x6_1).f1).toList != ([] : List UInt8)) = true:=bne_iff_ne.mpr c18
 replace H:=Option.bind_eq_some_iff.mp H
 obtain ⟨t119,A220,H⟩:=H
 have A22:=aq A220
 clear A220
 have H':=aq H
 clear H
 have hcz23_0 : wc.cell? ⟨gb109,0,none⟩ = some (.slice A0_0 l0_0.length c0_0):=(blk_cell BK109.out 0).trans rfl
 have hcz23_1 : wc.cell? ⟨gb109,1,none⟩ = some (.slice A0_1 l0_1.length c0_1):=(blk_cell BK109.out 1).trans rfl
 have hcz23_2 : wc.cell? ⟨gb109,2,none⟩ = some (.string a0_2):=(blk_cell BK109.out 2).trans rfl
 have hcz23_3 : wc.cell? ⟨gb109,3,none⟩ = some (.string a0_3):=(blk_cell BK109.out 3).trans rfl
 have hcz23_4 : wc.cell? ⟨gb109,4,none⟩ = some (.string a0_4):=(blk_cell BK109.out 4).trans rfl
 have hfz23_0:=blk_frozen BK109.out 0
 have hfz23_1:=blk_frozen BK109.out 1
 have hfz23_2:=blk_frozen BK109.out 2
 have hfz23_3:=blk_frozen BK109.out 3
 have hfz23_4:=blk_frozen BK109.out 4
 have p113 : 0 ≤ (x6_1 : Int):=of_decide_eq_true aS
 have q113 : x6_1 < (l0_0.length : Int):=of_decide_eq_true aS
 obtain ⟨ad113,A113_4,c113_4,A113_5,c113_5,A113_6,c113_6,e113,hx113_0,hx113_1,hx113_2,hx113_3,hx113_4,hx113_5,hx113_6,hl113_4,hi113_4,hl113_5,hi113_5,hl113_6,hi113_6⟩:=at_T33 HR0_0.out x6_1 p113 q113
 cases e113
 replace hx113_0:=(HB.out.cell (World.block_lt_of_cell? w _ hx113_0)).trans hx113_0
 replace hx113_1:=(HB.out.cell (World.block_lt_of_cell? w _ hx113_1)).trans hx113_1
 replace hx113_2:=(HB.out.cell (World.block_lt_of_cell? w _ hx113_2)).trans hx113_2
 replace hx113_3:=(HB.out.cell (World.block_lt_of_cell? w _ hx113_3)).trans hx113_3
 replace hx113_4:=(HB.out.cell (World.block_lt_of_cell? w _ hx113_4)).trans hx113_4
 replace hx113_5:=(HB.out.cell (World.block_lt_of_cell? w _ hx113_5)).trans hx113_5
 replace hx113_6:=(HB.out.cell (World.block_lt_of_cell? w _ hx113_6)).trans hx113_6
 have HR113_4:=aq hi113_4
 have HC113_4:=aq hl113_4
 clear hi113_4 hl113_4
 have HR113_5:=aq hi113_5
 have HC113_5:=aq hl113_5
 clear hi113_5 hl113_5
 have HR113_6:=aq hi113_6
 have HC113_6:=aq hl113_6
 clear hi113_6 hl113_6
 replace p113:=eq_true p113
 replace q113:=eq_true q113
 try go_wp2_with (first|((with_reducible refine gate_builtin (b:=.append) (xs:=#[.tmp 31,.tmp 38]) rfl ?_);at_builtin;refine Kd.R_append Kd.string (w0:=w) w.heap.size rfl (.tmp 31) (.tmp 38) 23 9 (.string ⟨#[]⟩) 16 rfl Try.underlying23 info9 rfl (by decide) (by omega) u5 x5_1 ((rd_T33 l0_0 x6_1).f0) [.string ((rd_T33 l0_0 x6_1).f0)] (fun _ => True) (fun _ => False) rfl rfl ?aP (fun _ hk => hk.elim) ?aF ?aO ?aB ?aS ?aL ?_;(case aP => exact rfl);(case aB => exact bH);(case aF => exact (fun _ _ => trivial));(case aO => exact (RU HO_5.out));(case aS => exact (below_size bH));(case aL => have:=LMc17.out;omega);intro v115 w24 ho hb hg hat;rw [← Ny114.out] at ho;have n0_:=aq (blk_grown (g:=gb109) (o:=.cells #[.slice (some ad113) l0_0.length c0_0,.slice A0_1 l0_1.length c0_1,.string a0_2,.string a0_3,.string a0_4] 27 (0,0)) (KU BK109.out) hg (Kd.R_ne HO_5.out BK109.out (by decide)));have n1_:=aq (hb);have n2_:=aq (ho);clear BK109;clear HB;clear HO_5;have BK109:=n0_;have HB:=n1_;have HO116:=n2_;clear n0_ n1_ n2_;clear ho hb hg hat;have hcz25_0 : w24.cell? ⟨gb109,0,none⟩ = some (.slice (some ad113) l0_0.length c0_0):=(blk_cell BK109.out 0).trans rfl;have hcz25_1 : w24.cell? ⟨gb109,1,none⟩ = some (.slice A0_1 l0_1.length c0_1):=(blk_cell BK109.out 1).trans rfl;have hcz25_2 : w24.cell? ⟨gb109,2,none⟩ = some (.string a0_2):=(blk_cell BK109.out 2).trans rfl;have hcz25_3 : w24.cell? ⟨gb109,3,none⟩ = some (.string a0_3):=(blk_cell BK109.out 3).trans rfl;have hcz25_4 : w24.cell? ⟨gb109,4,none⟩ = some (.string a0_4):=(blk_cell BK109.out 4).trans rfl;have hfz25_0:=blk_frozen BK109.out 0;have hfz25_1:=blk_frozen BK109.out 1;have hfz25_2:=blk_frozen BK109.out 2;have hfz25_3:=blk_frozen BK109.out 3;have hfz25_4:=blk_frozen BK109.out 4;have p117 : 0 ≤ (x6_1 : Int):=of_decide_eq_true aS;have q117 : x6_1 < (l0_0.length : Int):=of_decide_eq_true aS;obtain ⟨ad117,A117_4,c117_4,A117_5,c117_5,A117_6,c117_6,e117,hx117_0,hx117_1,hx117_2,hx117_3,hx117_4,hx117_5,hx117_6,hl117_4,hi117_4,hl117_5,hi117_5,hl117_6,hi117_6⟩:=at_T33 HR0_0.out x6_1 p117 q117;obtain rfl : ad113 = ad117:=(by injection e117);replace hx117_0:=(HB.out.cell (World.block_lt_of_cell? w _ hx117_0)).trans hx117_0;replace hx117_1:=(HB.out.cell (World.block_lt_of_cell? w _ hx117_1)).trans hx117_1;replace hx117_2:=(HB.out.cell (World.block_lt_of_cell? w _ hx117_2)).trans hx117_2;replace hx117_3:=(HB.out.cell (World.block_lt_of_cell? w _ hx117_3)).trans hx117_3;replace hx117_4:=(HB.out.cell (World.block_lt_of_cell? w _ hx117_4)).trans hx117_4;replace hx117_5:=(HB.out.cell (World.block_lt_of_cell? w _ hx117_5)).trans hx117_5;replace hx117_6:=(HB.out.cell (World.block_lt_of_cell? w _ hx117_6)).trans hx117_6;have HR117_4:=aq hi117_4;have HC117_4:=aq hl117_4;clear hi117_4 hl117_4;have HR117_5:=aq hi117_5;have HC117_5:=aq hl117_5;clear hi117_5 hl117_5;have HR117_6:=aq hi117_6;have HC117_6:=aq hl117_6;clear hi117_6 hl117_6;replace p117:=eq_true p117;replace q117:=eq_true q117))
 replace HO116:=aq (Kd.R_drew HO116.out)
 replace BK109:=aq (blk_drew BK109.out)
 replace HB:=aq (below_drew1 HB.out)
 have p118 : 0 ≤ (x6_1 : Int):=of_decide_eq_true aS
 have q118 : x6_1 < (l0_0.length : Int):=of_decide_eq_true aS
 obtain ⟨ad118,A118_4,c118_4,A118_5,c118_5,A118_6,c118_6,e118,hx118_0,hx118_1,hx118_2,hx118_3,hx118_4,hx118_5,hx118_6,hl118_4,hi118_4,hl118_5,hi118_5,hl118_6,hi118_6⟩:=at_T33 HR0_0.out x6_1 p118 q118
 have hw118_6:=hx118_6
 have hw118_5:=hx118_5
 have hw118_4:=hx118_4
 have hw118_3:=hx118_3
 have hw118_2:=hx118_2
 have hw118_1:=hx118_1
 have hw118_0:=hx118_0
 obtain rfl : ad113 = ad118:=(by injection e118)
 replace hx118_0:=(HB.out.cell (World.block_lt_of_cell? w _ hx118_0)).trans hx118_0
 replace hx118_1:=(HB.out.cell (World.block_lt_of_cell? w _ hx118_1)).trans hx118_1
 replace hx118_2:=(HB.out.cell (World.block_lt_of_cell? w _ hx118_2)).trans hx118_2
 replace hx118_3:=(HB.out.cell (World.block_lt_of_cell? w _ hx118_3)).trans hx118_3
 replace hx118_4:=(HB.out.cell (World.block_lt_of_cell? w _ hx118_4)).trans hx118_4
 replace hx118_5:=(HB.out.cell (World.block_lt_of_cell? w _ hx118_5)).trans hx118_5
 replace hx118_6:=(HB.out.cell (World.block_lt_of_cell? w _ hx118_6)).trans hx118_6
 have HR118_4:=aq hi118_4
 have HC118_4:=aq hl118_4
 clear hi118_4 hl118_4
 have HR118_5:=aq hi118_5
 have HC118_5:=aq hl118_5
 clear hi118_5 hl118_5
 have HR118_6:=aq hi118_6
 have HC118_6:=aq hl118_6
 clear hi118_6 hl118_6
 replace p118:=eq_true p118
 replace q118:=eq_true q118
 refine start_ (n:=9) (S:=fun w' => w'.cell? ⟨gb109,0,none⟩ = some (.slice (some ad113) l0_0.length c0_0) ∧ w'.cell? ⟨gb109,1,none⟩ = some (.slice A0_1 l0_1.length c0_1) ∧ w'.cell? ⟨gb109,2,none⟩ = some (.string a0_2) ∧ w'.cell? ⟨gb109,3,none⟩ = some (.string a0_3) ∧ w'.cell? ⟨gb109,4,none⟩ = some (.string a0_4) ∧ w'.cell? (ad113.add ((x6_1).toNat * 7)) = some (.string ((rd_T33 l0_0 x6_1).f0)) ∧ w'.cell? ⟨(ad113.add ((x6_1).toNat * 7)).block,(ad113.add ((x6_1).toNat * 7)).off + 1,none⟩ = some (.string ((rd_T33 l0_0 x6_1).f1)) ∧ w'.cell? ⟨(ad113.add ((x6_1).toNat * 7)).block,(ad113.add ((x6_1).toNat * 7)).off + 2,none⟩ = some (.bool ((rd_T33 l0_0 x6_1).f2)) ∧ w'.cell? ⟨(ad113.add ((x6_1).toNat * 7)).block,(ad113.add ((x6_1).toNat * 7)).off + 3,none⟩ = some (.bool ((rd_T33 l0_0 x6_1).f3)) ∧ w'.cell? ⟨(ad113.add ((x6_1).toNat * 7)).block,(ad113.add ((x6_1).toNat * 7)).off + 4,none⟩ = some (.slice A118_4 ((rd_T33 l0_0 x6_1).f4).length c118_4) ∧ w'.cell? ⟨(ad113.add ((x6_1).toNat * 7)).block,(ad113.add ((x6_1).toNat * 7)).off + 5,none⟩ = some (.slice A118_5 ((rd_T33 l0_0 x6_1).f5).length c118_5) ∧ w'.cell? ⟨(ad113.add ((x6_1).toNat * 7)).block,(ad113.add ((x6_1).toNat * 7)).off + 6,none⟩ = some (.slice A118_6 ((rd_T33 l0_0 x6_1).f6).length c118_6)) (ds:=[]) #[false,false,false,false,false,false,false,false,false] (by kernel_rfl) rfl rfl ⟨(blk_cell BK109.out 0).trans rfl,(blk_cell BK109.out 1).trans rfl,(blk_cell BK109.out 2).trans rfl,(blk_cell BK109.out 3).trans rfl,(blk_cell BK109.out 4).trans rfl,((HB.out.cell (World.block_lt_of_cell? w _ hw118_0)).trans hw118_0),((HB.out.cell (World.block_lt_of_cell? w _ hw118_1)).trans hw118_1),((HB.out.cell (World.block_lt_of_cell? w _ hw118_2)).trans hw118_2),((HB.out.cell (World.block_lt_of_cell? w _ hw118_3)).trans hw118_3),((HB.out.cell (World.block_lt_of_cell? w _ hw118_4)).trans hw118_4),((HB.out.cell (World.block_lt_of_cell? w _ hw118_5)).trans hw118_5),((HB.out.cell (World.block_lt_of_cell? w _ hw118_6)).trans hw118_6)⟩ (fun hHeld => ?_);refine with_tabW sr11_Supers.tab4 sr11_Supers.bits4 (fun HT_ HW_ => ?_)
 generalize w24.drew = w26 at HO116 BK109 HB HR118_4 HR118_5 HR118_6 hx118_0 hx118_1 hx118_2 hx118_3 hx118_4 hx118_5 hx118_6 hHeld ⊢
 refine pS (i:=1) (N:=some 24) ?_
 refine pS (i:=3) (N:=some 26) ?_
 refine tS (i:=0) (N:=some 23) rfl rfl hHeld HT_.out HW_.out (by kernel_rfl) (Or.inl ⟨by rfl,by rintro w' ⟨s0,s1,s2,s3,s4,s5,s6,s7,s8,s9,s10,s11⟩;go_simp;with_reducible rfl⟩) ?_
 refine tS (i:=2) (N:=some 25) rfl rfl hHeld HT_.out HW_.out (by kernel_rfl) (Or.inl ⟨by rfl,by rintro w' ⟨s0,s1,s2,s3,s4,s5,s6,s7,s8,s9,s10,s11⟩;go_simp;with_reducible rfl⟩) ?_
 refine pS (i:=4) (N:=some 27) ?_
 refine pS (i:=5) (N:=some 28) ?_
 refine tS (i:=6) (N:=some 29) rfl rfl hHeld HT_.out HW_.out (by kernel_rfl) (Or.inl ⟨by rfl,by rintro w' ⟨s0,s1,s2,s3,s4,s5,s6,s7,s8,s9,s10,s11⟩;go_simp;with_reducible rfl⟩) ?_
 refine one_ (i:=7) (N:=some 30) #[true,true,true,true,true,true,true,true,false] rfl rfl (one_of HT_.out (by kernel_rfl)) (by decide) (fun K hK => ?_)
 refine goes_ Try.func68 (by kernel_rfl) rfl #[.agg #[.slice (some ad113) l0_0.length c0_0,.slice A0_1 l0_1.length c0_1,.string a0_2,.string a0_3,.string a0_4],.string ((rd_T33 l0_0 x6_1).f1)] (by rfl) rfl rfl eA ?_
 with_reducible refine (sr08_Class.calls kj6 _ _ l0_0 _ _ l0_1 a0_2 a0_3 a0_4 ((rd_T33 l0_0 x6_1).f1) t119 _ ?side1 ?side2 ?side3 ?side4 A22.out).mono ?_
 (case side1 => exact CU HR0_0)
 (case side2 => exact HC0_0.out)
 (case side3 => exact CU HR0_1)
 (case side4 => exact HC0_1.out)
 rintro e w27 ⟨rfl,hb⟩
 refine ⟨_,rfl,?_⟩
 replace HO116:=RN HO116 hb
 replace BK109:=KN BK109 hb
 replace HB:=aq (below_step bH hb)
 (try clear hb)
 (try clear hb2)
 (try clear hk)
 (try clear hi)
 refine hK.out _ _ ⟨(blk_cell BK109.out 0).trans rfl,(blk_cell BK109.out 1).trans rfl,(blk_cell BK109.out 2).trans rfl,(blk_cell BK109.out 3).trans rfl,(blk_cell BK109.out 4).trans rfl,((HB.out.cell (World.block_lt_of_cell? w _ hw118_0)).trans hw118_0),((HB.out.cell (World.block_lt_of_cell? w _ hw118_1)).trans hw118_1),((HB.out.cell (World.block_lt_of_cell? w _ hw118_2)).trans hw118_2),((HB.out.cell (World.block_lt_of_cell? w _ hw118_3)).trans hw118_3),((HB.out.cell (World.block_lt_of_cell? w _ hw118_4)).trans hw118_4),((HB.out.cell (World.block_lt_of_cell? w _ hw118_5)).trans hw118_5),((HB.out.cell (World.block_lt_of_cell? w _ hw118_6)).trans hw118_6)⟩ (fun hHeld => ?_)
 clear hK K
 refine norm_ (a':=?_) ?_ ?_
 rotate_left
 · show Act.put _ (some 30) _ = _
   simp only [Act.put,List.setIfInBounds_toArray,List.set_cons_zero,List.set_cons_succ,i64_w,i32_w]
   rfl
 refine pS (i:=8) (N:=some 6) ?_
 refine done_ (done_of HT_.out (by kernel_rfl)) ?_
 try go_wp2
 go_roundg kj6
 case measure => have:=HK1.out;have:=HJ6.out;omega
 case rel => exact ⟨(y114),(t119),eS,H',⟨by have:=HK1.out;have:=HJ6.out;omega⟩,⟨by (with_reducible repeat (first|apply Kd.R_alloc|apply Kd.R_drewN|apply Kd.R_drew));exact HO116.out⟩,⟨KU BK109.out⟩,⟨bH⟩⟩
end Go.Proofs.Ytfplcohjnlbfjaa.Q52
end

section
namespace Go.Proofs.Ytfplcohjnlbfjaa.Q52
open Go.RowKit Go.Proofs.YtfplcohjnlbfjaaW
open PrintWords PrintLast PrintMore
attribute [local go_sem] max2_int min2_int max_two min_two max_three min_three max_four min_four
end Go.Proofs.Ytfplcohjnlbfjaa.Q52
end

section
namespace Go.Proofs.Ytfplcohjnlbfjaa.Hand
open Go.RowKit Go.Proofs.YtfplcohjnlbfjaaW
open PrintWords PrintLast PrintMore
theorem gr_scan {α : Type} (p : α → Bool) (xs : List α) (F : Nat → Int → Option Int) (hF : ∀ (k i : Nat) (hi : i < xs.length), F (k + 1) (i : Int) = if p xs[i] = true then some (i : Int) else F k ((i + 1 : Nat) : Int)) (hE : ∀ k, F (k + 1) (xs.length : Int) = some (-1)) :
  ∀ (d i k : Nat),xs.length - i = d → i ≤ xs.length → d + 1 ≤ k → (∀ (j : Nat) (hj : j < xs.length),j < i → p xs[j] = false) → F k (i : Int) = some (idxI p xs):=by
 intro d
 induction d with
 | zero =>
  intro i k hd hi hk hno
  obtain ⟨k,rfl⟩ : ∃ j,k = j + 1:=⟨k - 1,by omega⟩
  obtain rfl : i = xs.length:=by omega
  rw [hE,idxI_no]
  intro x hx
  obtain ⟨j,hj,rfl⟩:=List.getElem_of_mem hx
  exact hno j hj hj
 | succ d ih =>
  intro i k hd hi hk hno
  obtain ⟨k,rfl⟩ : ∃ j,k = j + 1:=⟨k - 1,by omega⟩
  have hlt : i < xs.length:=by omega
  rw [hF k i hlt]
  by_cases hp : p xs[i] = true
  ·
   rw [if_pos hp,idxI_at hlt hp hno]
  ·
   rw [if_neg hp]
   refine ih (i + 1) k (by omega) (by omega) (by omega) fun j hj hji => ?_
   rcases Nat.lt_or_ge j i with h|h
   ·
    exact hno j hj h
   ·
    obtain rfl : j = i:=by omega
    exact Bool.eq_false_iff.2 hp
theorem gr_wrap {i n : Nat} (h : i < n) (hn : n ≤ 9223372036854775807) : wrap64 ((i : Int) + 1) = ((i + 1 : Nat) : Int) := by
 unfold wrap64
 omega
def isF (name : ByteArray) (x : S103) : Bool := x.f0.toList == name.toList
theorem rdC_get (xs : List S33) (i : Nat) (hi : i < xs.length) : rd_T33 xs (i : Int) = xs[i] := by
 unfold rd_T33
 rw [Int.toNat_natCast,List.getD_eq_getElem?_getD,List.getElem?_eq_getElem hi]
 rfl
theorem rdM_get (xs : List S37) (i : Nat) (hi : i < xs.length) : rd_T37 xs (i : Int) = xs[i] := by
 unfold rd_T37
 rw [Int.toNat_natCast,List.getD_eq_getElem?_getD,List.getElem?_eq_getElem hi]
 rfl
theorem rdF_get (xs : List S103) (i : Nat) (hi : i < xs.length) : rd_T103 xs (i : Int) = xs[i] := by
 unfold rd_T103
 rw [Int.toNat_natCast,List.getD_eq_getElem?_getD,List.getElem?_eq_getElem hi]
 rfl
theorem grC_eq (l0 : List S33) (l1 : List ByteArray) (a2 a3 a4 a1 : ByteArray) (hl : l0.length ≤ 9223372036854775807) (k : Nat) (hk : l0.length + 1 ≤ k) : Q52.sr08_Class.f k l0 l1 a2 a3 a4 a1 = some (idxI (isC a1) l0) := by
 unfold Q52.sr08_Class.f
 refine gr_scan (isC a1) l0 (fun k x => Q52.sr08_Class.l0 k a1 x l0 l1 a2 a3 a4) (fun k i hi => ?_) (fun k => ?_) l0.length 0 k rfl (Nat.zero_le _) hk (fun j _ h => absurd h (Nat.not_lt_zero _))
 ·
  show Q52.sr08_Class.l0 (k + 1) a1 (i : Int) l0 l1 a2 a3 a4 = _
  rw [Q52.sr08_Class.l0,if_pos (by omega),if_pos (by omega),rdC_get l0 i hi,gr_wrap hi hl]
  unfold isC
  by_cases h : (l0[i].f0).toList = a1.toList
  ·
   rw [if_pos h,if_pos (beq_iff_eq.2 h)]
  ·
   rw [if_neg h,if_neg (fun e => h (beq_iff_eq.1 e))]
 ·
  show Q52.sr08_Class.l0 (k + 1) a1 (l0.length : Int) l0 l1 a2 a3 a4 = _
  rw [Q52.sr08_Class.l0,if_neg (by omega)]
theorem grM_eq (a0_0 a0_1 : ByteArray) (a0_2 a0_3 : Bool) (l0_4 : List ByteArray) (l0_5 : List S103) (l0_6 : List S37) (a1 a2 : ByteArray) (hl : l0_6.length ≤ 9223372036854775807) (k : Nat) (hk : l0_6.length + 1 ≤ k) : Q52.sr08_Method.f k a0_0 a0_1 a0_2 a0_3 l0_4 l0_5 l0_6 a1 a2 = some (idxI (isM a1 a2) l0_6) := by
 unfold Q52.sr08_Method.f
 refine gr_scan (isM a1 a2) l0_6 (fun k x => Q52.sr08_Method.l0 k a1 a2 x a0_0 a0_1 a0_2 a0_3 l0_4 l0_5 l0_6) (fun k i hi => ?_) (fun k => ?_) l0_6.length 0 k rfl (Nat.zero_le _) hk (fun j _ h => absurd h (Nat.not_lt_zero _))
 ·
  show Q52.sr08_Method.l0 (k + 1) a1 a2 (i : Int) a0_0 a0_1 a0_2 a0_3 l0_4 l0_5 l0_6 = _
  rw [Q52.sr08_Method.l0,if_pos (by omega),if_pos (by omega),rdM_get l0_6 i hi,gr_wrap hi hl]
  unfold isM
  by_cases h : (l0_6[i].f0).toList = a1.toList
  ·
   rw [if_pos h,beq_iff_eq.2 h,Bool.true_and]
   by_cases h2 : (l0_6[i].f1).toList = a2.toList
   ·
    rw [if_pos h2,if_pos (beq_iff_eq.2 h2)]
   ·
    rw [if_neg h2,if_neg (fun e => h2 (beq_iff_eq.1 e))]
  ·
   rw [if_neg h,beq_eq_false_iff_ne.2 h,Bool.false_and,if_neg (by decide)]
 ·
  show Q52.sr08_Method.l0 (k + 1) a1 a2 (l0_6.length : Int) a0_0 a0_1 a0_2 a0_3 l0_4 l0_5 l0_6 = _
  rw [Q52.sr08_Method.l0,if_neg (by omega)]
theorem grF_eq (a0_0 a0_1 : ByteArray) (a0_2 a0_3 : Bool) (l0_4 : List ByteArray) (l0_5 : List S103) (l0_6 : List S37) (a1 : ByteArray) (hl : l0_5.length ≤ 9223372036854775807) (k : Nat) (hk : l0_5.length + 1 ≤ k) : Q52.sr08_Field.f k a0_0 a0_1 a0_2 a0_3 l0_4 l0_5 l0_6 a1 = some (idxI (isF a1) l0_5) := by
 unfold Q52.sr08_Field.f
 refine gr_scan (isF a1) l0_5 (fun k x => Q52.sr08_Field.l0 k a1 x a0_0 a0_1 a0_2 a0_3 l0_4 l0_5 l0_6) (fun k i hi => ?_) (fun k => ?_) l0_5.length 0 k rfl (Nat.zero_le _) hk (fun j _ h => absurd h (Nat.not_lt_zero _))
 ·
  show Q52.sr08_Field.l0 (k + 1) a1 (i : Int) a0_0 a0_1 a0_2 a0_3 l0_4 l0_5 l0_6 = _
  rw [Q52.sr08_Field.l0,if_pos (by omega),if_pos (by omega),rdF_get l0_5 i hi,gr_wrap hi hl]
  unfold isF
  by_cases h : (l0_5[i].f0).toList = a1.toList
  ·
   rw [if_pos h,if_pos (beq_iff_eq.2 h)]
  ·
   rw [if_neg h,if_neg (fun e => h (beq_iff_eq.1 e))]
 ·
  show Q52.sr08_Field.l0 (k + 1) a1 (l0_5.length : Int) a0_0 a0_1 a0_2 a0_3 l0_4 l0_5 l0_6 = _
  rw [Q52.sr08_Field.l0,if_neg (by omega)]
def sr08_Class.f (l0_0 : List S33) (l0_1 : List ByteArray) (a0_2 a0_3 a0_4 a1 : ByteArray) : Option Int := some (idxI (isC a1) l0_0)
theorem sr08_Class.calls (A0_0 : Option Addr) (c0_0 : Nat) (l0_0 : List S33) (A0_1 : Option Addr) (c0_1 : Nat) (l0_1 : List ByteArray) (a0_2 : ByteArray) (a0_3 : ByteArray) (a0_4 : ByteArray) (a1 : ByteArray) (r : Int) (w : World) (hr0_0 : Kd.C k33 w A0_0 l0_0.length l0_0) (hc0_0 : l0_0.length ≤ c0_0) (hr0_1 : Kd.C Kd.string w A0_1 l0_1.length l0_1) (hc0_1 : l0_1.length ≤ c0_1) (h : sr08_Class.f l0_0 l0_1 a0_2 a0_3 a0_4 a1 = some r) :
  Calls Try.prog 68 #[.agg (pG A0_0 l0_0 c0_0 A0_1 l0_1 c0_1 a0_2 a0_3 a0_4),.string a1] w fun e w' => e = .returned (.int .i64 r) ∧ Below w.heap.size w w' :=
 Q52.sr08_Class.calls _ A0_0 c0_0 l0_0 A0_1 c0_1 l0_1 a0_2 a0_3 a0_4 a1 r w hr0_0 hc0_0 hr0_1 hc0_1 ((grC_eq l0_0 l0_1 a0_2 a0_3 a0_4 a1 hr0_0.2.1 _ (Nat.le_refl _)).trans h)
def sr08_Method.f (a0_0 a0_1 : ByteArray) (a0_2 a0_3 : Bool) (l0_4 : List ByteArray) (l0_5 : List S103) (l0_6 : List S37) (a1 a2 : ByteArray) : Option Int := some (idxI (isM a1 a2) l0_6)
theorem sr08_Method.calls (a0_0 : ByteArray) (a0_1 : ByteArray) (a0_2 : Bool) (a0_3 : Bool) (A0_4 : Option Addr) (c0_4 : Nat) (l0_4 : List ByteArray) (A0_5 : Option Addr) (c0_5 : Nat) (l0_5 : List S103) (A0_6 : Option Addr) (c0_6 : Nat) (l0_6 : List S37) (a1 : ByteArray) (a2 : ByteArray) (r : Int) (w : World) (hr0_4 : Kd.C Kd.string w A0_4 l0_4.length l0_4) (hc0_4 : l0_4.length ≤ c0_4) (hr0_5 : Kd.C k103 w A0_5 l0_5.length l0_5) (hc0_5 : l0_5.length ≤ c0_5) (hr0_6 : Kd.C k37 w A0_6 l0_6.length l0_6) (hc0_6 : l0_6.length ≤ c0_6) (h : sr08_Method.f a0_0 a0_1 a0_2 a0_3 l0_4 l0_5 l0_6 a1 a2 = some r) :
  Calls Try.prog 45 #[.agg #[.string a0_0,.string a0_1,.bool a0_2,.bool a0_3,.slice A0_4 l0_4.length c0_4,.slice A0_5 l0_5.length c0_5,.slice A0_6 l0_6.length c0_6],.string a1,.string a2] w fun e w' => e = .returned (.int .i64 r) ∧ Below w.heap.size w w' :=
 Q52.sr08_Method.calls _ a0_0 a0_1 a0_2 a0_3 A0_4 c0_4 l0_4 A0_5 c0_5 l0_5 A0_6 c0_6 l0_6 a1 a2 r w hr0_4 hc0_4 hr0_5 hc0_5 hr0_6 hc0_6 ((grM_eq a0_0 a0_1 a0_2 a0_3 l0_4 l0_5 l0_6 a1 a2 hr0_6.2.1 _ (Nat.le_refl _)).trans h)
def sr08_Field.f (a0_0 a0_1 : ByteArray) (a0_2 a0_3 : Bool) (l0_4 : List ByteArray) (l0_5 : List S103) (l0_6 : List S37) (a1 : ByteArray) : Option Int := some (idxI (isF a1) l0_5)
theorem sr08_Field.calls (a0_0 : ByteArray) (a0_1 : ByteArray) (a0_2 : Bool) (a0_3 : Bool) (A0_4 : Option Addr) (c0_4 : Nat) (l0_4 : List ByteArray) (A0_5 : Option Addr) (c0_5 : Nat) (l0_5 : List S103) (A0_6 : Option Addr) (c0_6 : Nat) (l0_6 : List S37) (a1 : ByteArray) (r : Int) (w : World) (hr0_4 : Kd.C Kd.string w A0_4 l0_4.length l0_4) (hc0_4 : l0_4.length ≤ c0_4) (hr0_5 : Kd.C k103 w A0_5 l0_5.length l0_5) (hc0_5 : l0_5.length ≤ c0_5) (hr0_6 : Kd.C k37 w A0_6 l0_6.length l0_6) (hc0_6 : l0_6.length ≤ c0_6) (h : sr08_Field.f a0_0 a0_1 a0_2 a0_3 l0_4 l0_5 l0_6 a1 = some r) :
  Calls Try.prog 80 #[.agg #[.string a0_0,.string a0_1,.bool a0_2,.bool a0_3,.slice A0_4 l0_4.length c0_4,.slice A0_5 l0_5.length c0_5,.slice A0_6 l0_6.length c0_6],.string a1] w fun e w' => e = .returned (.int .i64 r) ∧ Below w.heap.size w w' :=
 Q52.sr08_Field.calls _ a0_0 a0_1 a0_2 a0_3 A0_4 c0_4 l0_4 A0_5 c0_5 l0_5 A0_6 c0_6 l0_6 a1 r w hr0_4 hc0_4 hr0_5 hc0_5 hr0_6 hc0_6 ((grF_eq a0_0 a0_1 a0_2 a0_3 l0_4 l0_5 l0_6 a1 hr0_5.2.1 _ (Nat.le_refl _)).trans h)
theorem ref_class (P : Nat → Prop) (A0 : Option Addr) (c0 : Nat) (l0 : List S33) (A1 : Option Addr) (c1 : Nat) (l1 : List ByteArray) (a2 a3 a4 : ByteArray) (a1 : ByteArray) (w : World) (hs : Kd.F k33 w P A0 l0.length l0) (hc : l0.length ≤ c0) (hr1 : Kd.C Kd.string w A1 l1.length l1) (hc1 : l1.length ≤ c1) :
  Calls Try.prog 44 #[.agg (pG A0 l0 c0 A1 l1 c1 a2 a3 a4),.string a1] w fun e w' => ∃ A4 c4 A5 c5 A6 c6,e = .returned (.tuple #[.agg #[.string (knownC l0 a1).f0,.string (knownC l0 a1).f1,.bool (knownC l0 a1).f2,.bool (knownC l0 a1).f3,.slice A4 (knownC l0 a1).f4.length c4,.slice A5 (knownC l0 a1).f5.length c5,.slice A6 (knownC l0 a1).f6.length c6],.bool (hasC l0 a1)]) ∧ Kd.FK k33 w' (fun k => P k ∨ w.heap.size ≤ k) (knownC l0 a1) [.string (knownC l0 a1).f0,.string (knownC l0 a1).f1,.bool (knownC l0 a1).f2,.bool (knownC l0 a1).f3,.slice A4 (knownC l0 a1).f4.length c4,.slice A5 (knownC l0 a1).f5.length c5,.slice A6 (knownC l0 a1).f6.length c6] ∧ Below w.heap.size w w':=by
 have HN:=aq (fun W (hW : Below w.heap.size w W) => sr08_Class.calls A0 c0 l0 A1 c1 l1 a2 a3 a4 a1 _ W (Kd.C_below (Kd.F_now hs) hW) hc (Kd.C_below hr1 hW) hc1 rfl)
 clear hr1
 rcases idxI_cases (isC a1) l0 with ⟨hn,hf⟩|⟨i,hi,hn,hf⟩
 ·
  rw [hn] at HN
  have hx : knownC l0 a1 = z33:=by unfold knownC;rw [hf];rfl
  have hh : hasC l0 a1 = false:=by unfold hasC;rw [hf];rfl
  rw [hx,hh]
  clear hx hh hf hn hs
  go_enter Try.func44,Try.ntmps44
  go_wp2_with fail
  refine (HN.out _ (below_alloc (below_alloc (Below.refl _ _) _) _)).mono ?_
  rintro e w1 ⟨rfl,hb⟩
  have HB:=aq (below_step (below_alloc (below_alloc (Below.refl w.heap.size w) (Obj.cells (pG A0 l0 c0 A1 l1 c1 a2 a3 a4) 27)) (Obj.cells #[.string ⟨#[]⟩,.string ⟨#[]⟩,.bool false,.bool false,.slice none 0 0,.slice none 0 0,.slice none 0 0] 33)) hb)
  have hz:=blk_below (World.alloc_heap_new (w.alloc (Obj.cells (pG A0 l0 c0 A1 l1 c1 a2 a3 a4) 27)) (Obj.cells #[.string ⟨#[]⟩,.string ⟨#[]⟩,.bool false,.bool false,.slice none 0 0,.slice none 0 0,.slice none 0 0] 33)) hb
  rw [World.size_alloc] at hz
  have HZ:=aq hz
  clear hz
  have hp0:=blk_cell (blk_below (blk_alloc (World.alloc_heap_new w (Obj.cells (pG A0 l0 c0 A1 l1 c1 a2 a3 a4) 27)) (Obj.cells #[.string ⟨#[]⟩,.string ⟨#[]⟩,.bool false,.bool false,.slice none 0 0,.slice none 0 0,.slice none 0 0] 33)) hb) 0
  simp only [List.getElem?_toArray,List.getElem?_cons_zero] at hp0
  obtain ⟨z0,z1,z2,z3,z4,z5,z6⟩:=cells7 HZ.out
  have zf:=blk_frozen HZ.out
  clear hb
  go_wp2_with fail
  exact bodyPost_ret (results_ct rfl _ _ (w.heap.size + 1) 33 #[.string ⟨#[]⟩,.string ⟨#[]⟩,.bool false,.bool false,.slice none 0 0,.slice none 0 0,.slice none 0 0] (0,0) _ rfl (set7_own HZ.out _ _ _ _ _ _ _) Try.underlying33 rfl (by kernel_rfl)) rfl ⟨_,_,_,_,_,_,rfl,zero_class _ _,set7_below HB.out (Nat.le_succ _) _ _ _ _ _ _ _⟩
 ·
  rw [hn] at HN
  have hx : knownC l0 a1 = l0[i]:=by unfold knownC;rw [hf];rfl
  have hh : hasC l0 a1 = true:=by unfold hasC;rw [hf];rfl
  obtain ⟨ad,A4,c4,A5,c5,A6,c6,rfl,hAt,hFK⟩:=ClAt_of hs hi
  rw [hx,hh]
  obtain ⟨x,hxe⟩ : ∃ x,l0[i] = x:=⟨_,rfl⟩
  rw [hxe] at hAt hFK ⊢
  have HAT:=aq hAt
  have HFK:=aq hFK
  have d1 : decide ((i : Int) < 0) = false:=decide_eq_false (by omega)
  have d2 : decide ((i : Int) ≥ 0) = true:=decide_eq_true (by omega)
  have d3 : (0 : Int) ≤ (i : Int):=by omega
  have d4 : (i : Int) < (l0.length : Int):=by omega
  clear hx hh hf hn hs hxe hAt hFK
  go_enter Try.func44,Try.ntmps44
  go_wp2_with fail
  refine (HN.out _ (below_alloc (below_alloc (Below.refl _ _) _) _)).mono ?_
  rintro e w1 ⟨rfl,hb⟩
  have HB:=aq (below_step (below_alloc (below_alloc (Below.refl w.heap.size w) (Obj.cells #[.slice (some ad) l0.length c0,.slice A1 l1.length c1,.string a2,.string a3,.string a4] 27)) (Obj.cells #[.string ⟨#[]⟩,.string ⟨#[]⟩,.bool false,.bool false,.slice none 0 0,.slice none 0 0,.slice none 0 0] 33)) hb)
  have hz:=blk_below (World.alloc_heap_new (w.alloc (Obj.cells #[.slice (some ad) l0.length c0,.slice A1 l1.length c1,.string a2,.string a3,.string a4] 27)) (Obj.cells #[.string ⟨#[]⟩,.string ⟨#[]⟩,.bool false,.bool false,.slice none 0 0,.slice none 0 0,.slice none 0 0] 33)) hb
  rw [World.size_alloc] at hz
  have HZ:=aq hz
  clear hz
  have hp0:=blk_cell (blk_below (blk_alloc (World.alloc_heap_new w (Obj.cells #[.slice (some ad) l0.length c0,.slice A1 l1.length c1,.string a2,.string a3,.string a4] 27)) (Obj.cells #[.string ⟨#[]⟩,.string ⟨#[]⟩,.bool false,.bool false,.slice none 0 0,.slice none 0 0,.slice none 0 0] 33)) hb) 0
  simp only [List.getElem?_toArray,List.getElem?_cons_zero] at hp0
  obtain ⟨z0,z1,z2,z3,z4,z5,z6⟩:=cells7 HZ.out
  have zf:=blk_frozen HZ.out
  clear hb
  obtain ⟨h0,h1,h2,h3,h4,h5,h6⟩:=HAT.out.below HB.out
  go_wp2_with fail
  exact bodyPost_ret (results_ct rfl _ _ (w.heap.size + 1) 33 (zC x A4 c4 A5 c5 A6 c6) (0,0) _ rfl (set7_own HZ.out _ _ _ _ _ _ _) Try.underlying33 rfl (by kernel_rfl)) rfl ⟨_,_,_,_,_,_,rfl,FK_on HFK.out (set7_below HB.out (Nat.le_succ _) _ _ _ _ _ _ _),set7_below HB.out (Nat.le_succ _) _ _ _ _ _ _ _⟩
theorem ref_get (P : Nat → Prop) (A0 : Option Addr) (c0 : Nat) (l0 : List S33) (A1 : Option Addr) (c1 : Nat) (l1 : List ByteArray) (a2 a3 a4 : ByteArray) (b0 b1 b2 : ByteArray) (w : World) (hs : Kd.F k33 w P A0 l0.length l0) (hc : l0.length ≤ c0) (hr1 : Kd.C Kd.string w A1 l1.length l1) (hc1 : l1.length ≤ c1) :
  Calls Try.prog 28 #[.agg (pG A0 l0 c0 A1 l1 c1 a2 a3 a4),.agg #[.string b0,.string b1,.string b2]] w fun e w' => ∃ A5 c5,e = .returned (.tuple #[.agg (zH (getM l0 b0 b1 b2) A5 c5),.bool (hasM l0 b0 b1 b2)]) ∧ Kd.FK k37 w' (fun k => P k ∨ w.heap.size ≤ k) (getM l0 b0 b1 b2) [.string (getM l0 b0 b1 b2).f0,.string (getM l0 b0 b1 b2).f1,.bool (getM l0 b0 b1 b2).f2,.bool (getM l0 b0 b1 b2).f3,.int .i64 (getM l0 b0 b1 b2).f4,.slice A5 (getM l0 b0 b1 b2).f5.length c5] ∧ Below w.heap.size w w':=by
 have HK:=aq (ref_class (fun k => P k ∧ k < w.heap.size) A0 c0 l0 A1 c1 l1 a2 a3 a4 b0 (((w.alloc (Obj.cells (pG A0 l0 c0 A1 l1 c1 a2 a3 a4) 27)).alloc (Obj.cells #[.string b0,.string b1,.string b2] 25)).alloc (Obj.cells zM 37)) (Kd.F_below (Kd.F_bound hs) (below_alloc (below_alloc (below_alloc (Below.refl _ _) _) _) _)) hc (Kd.C_below hr1 (below_alloc (below_alloc (below_alloc (Below.refl _ _) _) _) _)) hc1)
 have HM : Aside0 ((((w.alloc (Obj.cells (pG A0 l0 c0 A1 l1 c1 a2 a3 a4) 27)).alloc (Obj.cells #[.string b0,.string b1,.string b2] 25)).alloc (Obj.cells zM 37)).heap[w.heap.size + 1]? = some (Obj.cells #[.string b0,.string b1,.string b2] 25 (0,0))):=⟨by
  have h:=World.alloc_heap_new (w.alloc (Obj.cells (pG A0 l0 c0 A1 l1 c1 a2 a3 a4) 27)) (Obj.cells #[.string b0,.string b1,.string b2] 25)
  rw [World.size_alloc] at h
  exact blk_alloc h _⟩
 have HZ : Aside0 ((((w.alloc (Obj.cells (pG A0 l0 c0 A1 l1 c1 a2 a3 a4) 27)).alloc (Obj.cells #[.string b0,.string b1,.string b2] 25)).alloc (Obj.cells zM 37)).heap[w.heap.size + 1 + 1]? = some (Obj.cells zM 37 (0,0))):=⟨by
  have h:=World.alloc_heap_new ((w.alloc (Obj.cells (pG A0 l0 c0 A1 l1 c1 a2 a3 a4) 27)).alloc (Obj.cells #[.string b0,.string b1,.string b2] 25)) (Obj.cells zM 37)
  rw [World.size_alloc,World.size_alloc] at h
  exact h⟩
 unfold getM hasM
 obtain ⟨x,hx⟩ : ∃ x,knownC l0 b0 = x:=⟨_,rfl⟩
 have hz : hasC l0 b0 = false → x = z33:=fun h => by rw [← hx];unfold knownC;unfold hasC at h;rw [Option.isSome_eq_false_iff,Option.isNone_iff_eq_none] at h;rw [h];rfl
 obtain ⟨ok,hok⟩ : ∃ ok,hasC l0 b0 = ok:=⟨_,rfl⟩
 rw [hx,hok] at HK
 rw [hok] at hz
 rw [hx]
 clear hx hok hr1 hs
 rcases idxI_cases (isM b1 b2) x.f6 with ⟨hn,hf⟩|⟨i,hi,hn,hf⟩
 ·
  have HN:=aq hn
  have hy : (x.f6.find? (isM b1 b2)).getD z37 = z37:=by rw [hf];rfl
  have hh : (x.f6.find? (isM b1 b2)).isSome = false:=by rw [hf];rfl
  rw [hy,hh]
  clear hy hh hf hn
  clear hz
  cases ok
  ·
   skip
   go_enter Try.func28,Try.ntmps28
   go_wp2_with fail
   refine (HK.out).mono ?_
   rintro e w1 ⟨A4,c4,A5,c5,A6,c6,rfl,hFK,hb1⟩
   have HB1:=aq (below_step (below_alloc (below_alloc (below_alloc (Below.refl w.heap.size w) (Obj.cells (pG A0 l0 c0 A1 l1 c1 a2 a3 a4) 27)) (Obj.cells #[.string b0,.string b1,.string b2] 25)) (Obj.cells zM 37)) hb1)
   have HZ1:=aq (blk_below HZ.out hb1)
   obtain ⟨e0,e1,e2⟩:=cells3 (blk_below HM.out hb1)
   have hl1 : w.heap.size + 1 < w1.heap.size:=blk_lt (blk_below HM.out hb1)
   have hl2 : w.heap.size + 1 + 1 < w1.heap.size:=blk_lt HZ1.out
   have HFK:=aq hFK
   clear hb1 hFK
   go_wp2_with fail
   have HO:=aq (class_opens HFK.out)
   have HNM:=aq (sr08_Method.calls x.f0 x.f1 x.f2 x.f3 A4 c4 x.f4 A5 c5 x.f5 A6 c6 x.f6 b1 b2 _ (w1.alloc (Obj.cells (zC x A4 c4 A5 c5 A6 c6) 33)) (Kd.C_below HO.out.2.1 (below_alloc (Below.refl _ _) _)) HO.out.1 (Kd.C_below HO.out.2.2.2.1 (below_alloc (Below.refl _ _) _)) HO.out.2.2.1 (Kd.C_below HO.out.2.2.2.2.2 (below_alloc (Below.refl _ _) _)) HO.out.2.2.2.2.1 rfl)
   rw [HN.out] at HNM
   refine (HNM.out).mono ?_
   rintro e w2 ⟨rfl,hb2⟩
   have HB12:=aq (below_step (below_alloc (Below.refl w1.heap.size w1) (Obj.cells (zC x A4 c4 A5 c5 A6 c6) 33)) hb2)
   have HB2:=aq (below_step HB1.out HB12.out)
   have HZ2:=aq (blk_below HZ1.out HB12.out)
   obtain ⟨z0,z1,z2,z3,z4,z5⟩:=cells6 HZ2.out
   have zf:=blk_frozen HZ2.out
   obtain ⟨k0,k1,k2,k3,k4,k5,k6⟩:=cells7 (blk_below (World.alloc_heap_new w1 (Obj.cells (zC x A4 c4 A5 c5 A6 c6) 33)) hb2)
   clear hb2 e0 e1 e2 HNM HO k0 k1 k2 k3 k4 k5
   go_wp2_with fail
   exact bodyPost_ret (results_ct rfl _ _ (w.heap.size + 1 + 1) 37 zM (0,0) _ rfl (set6_own HZ2.out _ _ _ _ _ _) Try.underlying37 rfl (by kernel_rfl)) rfl ⟨_,_,rfl,zero_method _ _,set6_below HB2.out (by omega) _ _ _ _ _ _⟩
  ·
   skip
   go_enter Try.func28,Try.ntmps28
   go_wp2_with fail
   refine (HK.out).mono ?_
   rintro e w1 ⟨A4,c4,A5,c5,A6,c6,rfl,hFK,hb1⟩
   have HB1:=aq (below_step (below_alloc (below_alloc (below_alloc (Below.refl w.heap.size w) (Obj.cells (pG A0 l0 c0 A1 l1 c1 a2 a3 a4) 27)) (Obj.cells #[.string b0,.string b1,.string b2] 25)) (Obj.cells zM 37)) hb1)
   have HZ1:=aq (blk_below HZ.out hb1)
   obtain ⟨e0,e1,e2⟩:=cells3 (blk_below HM.out hb1)
   have hl1 : w.heap.size + 1 < w1.heap.size:=blk_lt (blk_below HM.out hb1)
   have hl2 : w.heap.size + 1 + 1 < w1.heap.size:=blk_lt HZ1.out
   have HFK:=aq hFK
   clear hb1 hFK
   go_wp2_with fail
   have HO:=aq (class_opens HFK.out)
   have HNM:=aq (sr08_Method.calls x.f0 x.f1 x.f2 x.f3 A4 c4 x.f4 A5 c5 x.f5 A6 c6 x.f6 b1 b2 _ (w1.alloc (Obj.cells (zC x A4 c4 A5 c5 A6 c6) 33)) (Kd.C_below HO.out.2.1 (below_alloc (Below.refl _ _) _)) HO.out.1 (Kd.C_below HO.out.2.2.2.1 (below_alloc (Below.refl _ _) _)) HO.out.2.2.1 (Kd.C_below HO.out.2.2.2.2.2 (below_alloc (Below.refl _ _) _)) HO.out.2.2.2.2.1 rfl)
   rw [HN.out] at HNM
   refine (HNM.out).mono ?_
   rintro e w2 ⟨rfl,hb2⟩
   have HB12:=aq (below_step (below_alloc (Below.refl w1.heap.size w1) (Obj.cells (zC x A4 c4 A5 c5 A6 c6) 33)) hb2)
   have HB2:=aq (below_step HB1.out HB12.out)
   have HZ2:=aq (blk_below HZ1.out HB12.out)
   obtain ⟨z0,z1,z2,z3,z4,z5⟩:=cells6 HZ2.out
   have zf:=blk_frozen HZ2.out
   obtain ⟨k0,k1,k2,k3,k4,k5,k6⟩:=cells7 (blk_below (World.alloc_heap_new w1 (Obj.cells (zC x A4 c4 A5 c5 A6 c6) 33)) hb2)
   clear hb2 e0 e1 e2 HNM HO k0 k1 k2 k3 k4 k5
   go_wp2_with fail
   exact bodyPost_ret (results_ct rfl _ _ (w.heap.size + 1 + 1) 37 zM (0,0) _ rfl (set6_own HZ2.out _ _ _ _ _ _) Try.underlying37 rfl (by kernel_rfl)) rfl ⟨_,_,rfl,zero_method _ _,set6_below HB2.out (by omega) _ _ _ _ _ _⟩
 ·
  have HN:=aq hn
  have hy : (x.f6.find? (isM b1 b2)).getD z37 = x.f6[i]:=by rw [hf];rfl
  have hh : (x.f6.find? (isM b1 b2)).isSome = true:=by rw [hf];rfl
  rw [hy,hh]
  clear hy hh hf hn
  obtain rfl : ok = true:=by
   cases ok
   ·
    rw [hz rfl] at hi;exact absurd hi (Nat.not_lt_zero _)
   ·
    rfl
  have d2 : decide ((i : Int) < 0) = false:=decide_eq_false (by omega)
  clear hz
  have d3 : (0 : Int) ≤ (i : Int):=by omega
  have d4 : (i : Int) < (x.f6.length : Int):=by omega
  have HI:=aq hi
  obtain ⟨y,hye⟩ : ∃ y,x.f6[i] = y:=⟨_,rfl⟩
  rw [hye]
  have HYE:=aq hye
  clear hye
  go_enter Try.func28,Try.ntmps28
  go_wp2_with fail
  refine (HK.out).mono ?_
  rintro e w1 ⟨A4,c4,A5,c5,A6,c6,rfl,hFK,hb1⟩
  have HB1:=aq (below_step (below_alloc (below_alloc (below_alloc (Below.refl w.heap.size w) (Obj.cells (pG A0 l0 c0 A1 l1 c1 a2 a3 a4) 27)) (Obj.cells #[.string b0,.string b1,.string b2] 25)) (Obj.cells zM 37)) hb1)
  have HZ1:=aq (blk_below HZ.out hb1)
  obtain ⟨e0,e1,e2⟩:=cells3 (blk_below HM.out hb1)
  have hl1 : w.heap.size + 1 < w1.heap.size:=blk_lt (blk_below HM.out hb1)
  have hl2 : w.heap.size + 1 + 1 < w1.heap.size:=blk_lt HZ1.out
  have HFK:=aq hFK
  clear hb1 hFK
  go_wp2_with fail
  have HO:=aq (class_opens HFK.out)
  have HNM:=aq (sr08_Method.calls x.f0 x.f1 x.f2 x.f3 A4 c4 x.f4 A5 c5 x.f5 A6 c6 x.f6 b1 b2 _ (w1.alloc (Obj.cells (zC x A4 c4 A5 c5 A6 c6) 33)) (Kd.C_below HO.out.2.1 (below_alloc (Below.refl _ _) _)) HO.out.1 (Kd.C_below HO.out.2.2.2.1 (below_alloc (Below.refl _ _) _)) HO.out.2.2.1 (Kd.C_below HO.out.2.2.2.2.2 (below_alloc (Below.refl _ _) _)) HO.out.2.2.2.2.1 rfl)
  rw [HN.out] at HNM
  refine (HNM.out).mono ?_
  rintro e w2 ⟨rfl,hb2⟩
  have HB12:=aq (below_step (below_alloc (Below.refl w1.heap.size w1) (Obj.cells (zC x A4 c4 A5 c5 A6 c6) 33)) hb2)
  have HB2:=aq (below_step HB1.out HB12.out)
  have HZ2:=aq (blk_below HZ1.out HB12.out)
  obtain ⟨z0,z1,z2,z3,z4,z5⟩:=cells6 HZ2.out
  have zf:=blk_frozen HZ2.out
  obtain ⟨k0,k1,k2,k3,k4,k5,k6⟩:=cells7 (blk_below (World.alloc_heap_new w1 (Obj.cells (zC x A4 c4 A5 c5 A6 c6) 33)) hb2)
  clear hb2 e0 e1 e2 HNM HO k0 k1 k2 k3 k4 k5
  obtain ⟨ad,B5,d5,hA,hAt,hFM⟩:=MeAt_of (class_methods HFK.out) HI.out
  subst hA
  rw [HYE.out] at hAt hFM
  obtain ⟨h0,h1,h2,h3,h4,h5⟩:=hAt.below HB12.out
  have HFM:=aq hFM
  clear hAt hFM
  go_wp2_with fail
  exact bodyPost_ret (results_ct rfl _ _ (w.heap.size + 1 + 1) 37 (zH y B5 d5) (0,0) _ rfl (set6_own HZ2.out _ _ _ _ _ _) Try.underlying37 rfl (by kernel_rfl)) rfl ⟨_,_,rfl,Foot.mono (Foot.step HFM.out (fun k hk hlt => (set6_far (by rcases hk with hk|hk;exact Nat.ne_of_lt (by omega);simp only [World.size_alloc] at hk;omega) _ _ _ _ _ _).trans (HB12.out.block k hlt))) (fun k hk => hk.elim (fun h => .inl h.1) (fun h => .inr (by simp only [World.size_alloc] at h;omega))),set6_below HB2.out (by omega) _ _ _ _ _ _⟩
theorem grI_eq (l : List ByteArray) (s : ByteArray) (hl : l.length ≤ 9223372036854775807) : ∀ (d i k : Nat), l.length - i = d → i ≤ l.length → d + 1 ≤ k → Q52.sr11_in.l0 k l s (i : Int) = some ((l.drop i).any (eqB s)) := by
 intro d
 induction d with
 | zero =>
  intro i k hd hi hk
  obtain ⟨k,rfl⟩ : ∃ j,k = j + 1:=⟨k - 1,by omega⟩
  obtain rfl : i = l.length:=by omega
  rw [Q52.sr11_in.l0,if_neg (by omega),List.drop_length]
  rfl
 | succ d ih =>
  intro i k hd hi hk
  obtain ⟨k,rfl⟩ : ∃ j,k = j + 1:=⟨k - 1,by omega⟩
  have hlt : i < l.length:=by omega
  have hr : rdOf ByteArray.empty l (i : Int) = l[i]:=by
   unfold rdOf
   rw [Int.toNat_natCast,List.getD_eq_getElem?_getD,List.getElem?_eq_getElem hlt]
   rfl
  rw [Q52.sr11_in.l0,if_pos (by omega),if_pos (by omega),hr,gr_wrap hlt hl,List.drop_eq_getElem_cons hlt,List.any_cons]
  by_cases h : l[i].toList = s.toList
  ·
   rw [if_pos h,show eqB s l[i] = true from beq_iff_eq.2 h,Bool.true_or]
  ·
   rw [if_neg h,show eqB s l[i] = false from beq_eq_false_iff_ne.2 h,Bool.false_or]
   exact ih (i + 1) k (by omega) (by omega) (by omega)
theorem gr_in (l : List ByteArray) (s : ByteArray) (hl : l.length ≤ 9223372036854775807) (k : Nat) (hk : l.length + 1 ≤ k) : Q52.sr11_in.f k l s = some (l.any (eqB s)) := by
 have h:=grI_eq l s hl l.length 0 k rfl (Nat.zero_le _) hk
 rw [List.drop_zero] at h
 exact h
theorem isC_name {x : S33} {nm : ByteArray} (h : isC nm x = true) : x.f0 = nm := by
 have h1 : x.f0.toList = nm.toList:=beq_iff_eq.1 h
 rw [ByteArray.toList_eq,ByteArray.toList_eq] at h1
 exact ByteArray.ext (Array.ext' h1)
theorem grU_eq (l : List S33) (l1 : List ByteArray) (a2 a3 a4 : ByteArray) (hl : l.length ≤ 1048576) : ∀ (n : Nat) (acc : List ByteArray) (had : List ByteArray) (nm : ByteArray) (k : Nat), (∀ s, had.any (eqB s) = acc.any (eqB s)) → leftC l had < n → acc.length + n ≤ 4194304 → acc.length + 2 * n + l.length + n + 8 ≤ k →
  Q52.sr11_Supers.l0 k acc (idxI (isC nm) l) l l1 a2 a3 a4 = some (acc ++ upF n l had nm)
 | 0,_,_,_,_,_,h,_,_ => absurd h (Nat.not_lt_zero _)
 | n + 1,acc,had,nm,k,hh,hn,hacc,hk => by
  obtain ⟨k,rfl⟩ : ∃ j,k = j + 2:=⟨k - 2,by omega⟩
  rw [Q52.sr11_Supers.l0,upF]
  rcases idxI_cases (isC nm) l with ⟨hx,hf⟩|⟨i,hi,hx,hf⟩
  ·
   rw [hx,if_neg (by decide),Q52.sr11_Supers.j1,if_neg (by decide),if_neg (fun h => by unfold hasC at h;rw [hf] at h;exact absurd h.1 (by decide)),List.append_nil]
  ·
   have hc : isC nm l[i] = true:=by
    have:=List.find?_some hf
    exact this
   have hk' : knownC l nm = l[i]:=by unfold knownC;rw [hf];rfl
   have hhas : hasC l nm = true:=by unfold hasC;rw [hf];rfl
   have hnm:=isC_name hc
   rw [hx,if_pos (by omega),if_pos (by omega),if_pos (by omega),rdC_get l i hi,hnm,gr_in acc nm (by omega) _ (by omega),Option.bind_some,Q52.sr11_Supers.j1]
   by_cases hin : acc.any (eqB nm) = true
   ·
    rw [hin,if_neg (by decide),if_neg (fun h => by rw [hh nm,hin] at h;exact absurd h.2 (by decide)),List.append_nil]
   ·
    have hin':=Bool.eq_false_iff.2 hin
    rw [hin',if_pos (show (!false) = true from rfl),if_pos (by omega),if_pos (by omega),if_pos (by omega),rdC_get l i hi,hnm,Option.bind_some,if_pos (show hasC l nm = true ∧ had.any (eqB nm) = false from ⟨hhas,by rw [hh nm];exact hin'⟩),hk']
    have hlt:=left_lt hhas (show had.any (eqB nm) = false by rw [hh nm];exact hin')
    by_cases hs : l[i].f1.size = 0
    ·
     rw [if_pos ((toList_nil _).2 hs),if_pos hs]
    ·
     rw [if_neg (fun h => hs ((toList_nil _).1 h)),if_neg hs,grC_eq l l1 a2 a3 a4 _ (by omega) _ (by omega),Option.bind_some,grU_eq l l1 a2 a3 a4 hl n (acc ++ [nm]) (nm :: had) _ k (fun s => by rw [List.any_cons,hh s,List.any_append,List.any_cons,List.any_nil,Bool.or_false,Bool.or_comm]) (by omega) (by rw [List.length_append,List.length_singleton];omega) (by rw [List.length_append,List.length_singleton];omega),List.append_assoc]
     rfl
def sr11_Supers.f (l0_0 : List S33) (l0_1 : List ByteArray) (a0_2 a0_3 a0_4 a1 : ByteArray) : Option (List ByteArray) := if l0_0.length ≤ 1048576 then some (upF (l0_0.length + 1) l0_0 [] a1) else none
theorem sr11_Supers.calls (A0_0 : Option Addr) (c0_0 : Nat) (l0_0 : List S33) (A0_1 : Option Addr) (c0_1 : Nat) (l0_1 : List ByteArray) (a0_2 : ByteArray) (a0_3 : ByteArray) (a0_4 : ByteArray) (a1 : ByteArray) (r : List ByteArray) (w : World) (hr0_0 : Kd.C k33 w A0_0 l0_0.length l0_0) (hc0_0 : l0_0.length ≤ c0_0) (hr0_1 : Kd.C Kd.string w A0_1 l0_1.length l0_1) (hc0_1 : l0_1.length ≤ c0_1) (h : sr11_Supers.f l0_0 l0_1 a0_2 a0_3 a0_4 a1 = some r) :
  Calls Try.prog 79 #[.agg (pG A0_0 l0_0 c0_0 A0_1 l0_1 c0_1 a0_2 a0_3 a0_4),.string a1] w fun e w' => ∃ v0_ : Value,e = .returned (v0_) ∧ Kd.R Kd.string 9 w' w.heap.size (fun _ => True) v0_ r ∧ Below w.heap.size w w':=by
 unfold sr11_Supers.f at h
 split at h
 ·
  rename_i hl
  refine Q52.sr11_Supers.calls (5 * l0_0.length + 30) A0_0 c0_0 l0_0 A0_1 c0_1 l0_1 a0_2 a0_3 a0_4 a1 r w hr0_0 hc0_0 hr0_1 hc0_1 (Eq.trans ?_ h)
  unfold Q52.sr11_Supers.f
  rw [grC_eq _ _ _ _ _ _ (by omega) _ (by omega),Option.bind_some,grU_eq l0_0 l0_1 a0_2 a0_3 a0_4 hl (l0_0.length + 1) [] [] a1 _ (fun _ => rfl) (Nat.lt_succ_of_le List.countP_le_length) (by simp;omega) (by simp;omega)]
  rfl
 ·
  cases h
def getFd (l : List S33) (c n : ByteArray) : S103 := ((knownC l c).f5.find? (isF n)).getD z103
def hasFd (l : List S33) (c n : ByteArray) : Bool := ((knownC l c).f5.find? (isF n)).isSome
theorem cells2f {w : World} {g : Nat} {t : TypeId} {x y : Value} (h : w.heap[g]? = some (Obj.cells #[x, y] t (0, 0))) : w.cell? ⟨g, 0, none⟩ = some x ∧ w.cell? ⟨g, 1, none⟩ = some y := ⟨blk_cell h 0, blk_cell h 1⟩
theorem cells4f {w : World} {g : Nat} {t : TypeId} {u0 u1 u2 u3 : Value} (h : w.heap[g]? = some (Obj.cells #[u0, u1, u2, u3] t (0, 0))) : w.cell? ⟨g, 0, none⟩ = some u0 ∧ w.cell? ⟨g, 1, none⟩ = some u1 ∧ w.cell? ⟨g, 2, none⟩ = some u2 ∧ w.cell? ⟨g, 3, none⟩ = some u3 := ⟨blk_cell h 0, blk_cell h 1, blk_cell h 2, blk_cell h 3⟩
theorem set4_own {w : World} {R : Nat} {t : TypeId} {u0 u1 u2 u3 : Value} (h : w.heap[R]? = some (Obj.cells #[u0, u1, u2, u3] t (0, 0))) (v0 v1 v2 v3 : Value) : ((((w.setCell ⟨R, 0, none⟩ v0).setCell ⟨R, 1, none⟩ v1).setCell ⟨R, 2, none⟩ v2).setCell ⟨R, 3, none⟩ v3).heap[R]? = some (Obj.cells #[v0, v1, v2, v3] t (0, 0)) :=
 (blk_put (cs:=#[v0,v1,v2,u3]) (blk_put (cs:=#[v0,v1,u2,u3]) (blk_put (cs:=#[v0,u1,u2,u3]) (blk_put (cs:=#[u0,u1,u2,u3]) h 0 v0 rfl) 1 v1 rfl) 2 v2 rfl) 3 v3 rfl)
theorem set4_below {w0 w : World} {R : Nat} (h : Below w0.heap.size w0 w) (hR : w0.heap.size ≤ R) (v0 v1 v2 v3 : Value) : Below w0.heap.size w0 ((((w.setCell ⟨R, 0, none⟩ v0).setCell ⟨R, 1, none⟩ v1).setCell ⟨R, 2, none⟩ v2).setCell ⟨R, 3, none⟩ v3) := below_set (below_set (below_set (below_set h hR) hR) hR) hR
theorem ref_fieldOf (P : Nat → Prop) (A0 : Option Addr) (c0 : Nat) (l0 : List S33) (A1 : Option Addr) (c1 : Nat) (l1 : List ByteArray) (a2 a3 a4 : ByteArray) (b0 b1 : ByteArray) (w : World) (hs : Kd.F k33 w P A0 l0.length l0) (hc : l0.length ≤ c0) (hr1 : Kd.C Kd.string w A1 l1.length l1) (hc1 : l1.length ≤ c1) :
  Calls Try.prog 50 #[.agg (pG A0 l0 c0 A1 l1 c1 a2 a3 a4),.agg #[.string b0,.string b1]] w fun e w' => e = .returned (.tuple #[.agg #[.string (getFd l0 b0 b1).f0,.int .i64 (getFd l0 b0 b1).f1.f0,.string (getFd l0 b0 b1).f1.f1,.bool (getFd l0 b0 b1).f2],.bool (hasFd l0 b0 b1)]) ∧ Below w.heap.size w w':=by
 have HK:=aq (ref_class (fun k => P k ∧ k < w.heap.size) A0 c0 l0 A1 c1 l1 a2 a3 a4 b0 (((w.alloc (Obj.cells (pG A0 l0 c0 A1 l1 c1 a2 a3 a4) 27)).alloc (Obj.cells #[.string b0,.string b1] 44)).alloc (Obj.cells #[.string ⟨#[]⟩,.int .i64 0,.string ⟨#[]⟩,.bool false] 103)) (Kd.F_below (Kd.F_bound hs) (below_alloc (below_alloc (below_alloc (Below.refl _ _) _) _) _)) hc (Kd.C_below hr1 (below_alloc (below_alloc (below_alloc (Below.refl _ _) _) _) _)) hc1)
 have HM : Aside0 ((((w.alloc (Obj.cells (pG A0 l0 c0 A1 l1 c1 a2 a3 a4) 27)).alloc (Obj.cells #[.string b0,.string b1] 44)).alloc (Obj.cells #[.string ⟨#[]⟩,.int .i64 0,.string ⟨#[]⟩,.bool false] 103)).heap[w.heap.size + 1]? = some (Obj.cells #[.string b0,.string b1] 44 (0,0))):=⟨by
  have h:=World.alloc_heap_new (w.alloc (Obj.cells (pG A0 l0 c0 A1 l1 c1 a2 a3 a4) 27)) (Obj.cells #[.string b0,.string b1] 44)
  rw [World.size_alloc] at h
  exact blk_alloc h _⟩
 have HZ : Aside0 ((((w.alloc (Obj.cells (pG A0 l0 c0 A1 l1 c1 a2 a3 a4) 27)).alloc (Obj.cells #[.string b0,.string b1] 44)).alloc (Obj.cells #[.string ⟨#[]⟩,.int .i64 0,.string ⟨#[]⟩,.bool false] 103)).heap[w.heap.size + 1 + 1]? = some (Obj.cells #[.string ⟨#[]⟩,.int .i64 0,.string ⟨#[]⟩,.bool false] 103 (0,0))):=⟨by
  have h:=World.alloc_heap_new ((w.alloc (Obj.cells (pG A0 l0 c0 A1 l1 c1 a2 a3 a4) 27)).alloc (Obj.cells #[.string b0,.string b1] 44)) (Obj.cells #[.string ⟨#[]⟩,.int .i64 0,.string ⟨#[]⟩,.bool false] 103)
  rw [World.size_alloc,World.size_alloc] at h
  exact h⟩
 unfold getFd hasFd
 obtain ⟨x,hx⟩ : ∃ x,knownC l0 b0 = x:=⟨_,rfl⟩
 have hz : hasC l0 b0 = false → x = z33:=fun h => by rw [← hx];unfold knownC;unfold hasC at h;rw [Option.isSome_eq_false_iff,Option.isNone_iff_eq_none] at h;rw [h];rfl
 obtain ⟨ok,hok⟩ : ∃ ok,hasC l0 b0 = ok:=⟨_,rfl⟩
 rw [hx,hok] at HK
 rw [hok] at hz
 rw [hx]
 clear hx hok hr1 hs
 rcases idxI_cases (isF b1) x.f5 with ⟨hn,hf⟩|⟨i,hi,hn,hf⟩
 ·
  have HN:=aq hn
  have hy : (x.f5.find? (isF b1)).getD z103 = z103:=by rw [hf];rfl
  have hh : (x.f5.find? (isF b1)).isSome = false:=by rw [hf];rfl
  rw [hy,hh]
  clear hy hh hf hn
  clear hz
  cases ok
  ·
   skip
   go_enter Try.func50,Try.ntmps50
   go_wp2_with fail
   refine (HK.out).mono ?_
   rintro e w1 ⟨A4,c4,A5,c5,A6,c6,rfl,hFK,hb1⟩
   have HB1:=aq (below_step (below_alloc (below_alloc (below_alloc (Below.refl w.heap.size w) (Obj.cells (pG A0 l0 c0 A1 l1 c1 a2 a3 a4) 27)) (Obj.cells #[.string b0,.string b1] 44)) (Obj.cells #[.string ⟨#[]⟩,.int .i64 0,.string ⟨#[]⟩,.bool false] 103)) hb1)
   have HZ1:=aq (blk_below HZ.out hb1)
   obtain ⟨e0,e1⟩:=cells2f (blk_below HM.out hb1)
   have hl1 : w.heap.size + 1 < w1.heap.size:=blk_lt (blk_below HM.out hb1)
   have hl2 : w.heap.size + 1 + 1 < w1.heap.size:=blk_lt HZ1.out
   have HFK:=aq hFK
   clear hb1 hFK
   go_wp2_with fail
   have HO:=aq (class_opens HFK.out)
   have HNM:=aq (sr08_Field.calls x.f0 x.f1 x.f2 x.f3 A4 c4 x.f4 A5 c5 x.f5 A6 c6 x.f6 b1 _ (w1.alloc (Obj.cells (zC x A4 c4 A5 c5 A6 c6) 33)) (Kd.C_below HO.out.2.1 (below_alloc (Below.refl _ _) _)) HO.out.1 (Kd.C_below HO.out.2.2.2.1 (below_alloc (Below.refl _ _) _)) HO.out.2.2.1 (Kd.C_below HO.out.2.2.2.2.2 (below_alloc (Below.refl _ _) _)) HO.out.2.2.2.2.1 rfl)
   rw [HN.out] at HNM
   refine (HNM.out).mono ?_
   rintro e w2 ⟨rfl,hb2⟩
   have HB12:=aq (below_step (below_alloc (Below.refl w1.heap.size w1) (Obj.cells (zC x A4 c4 A5 c5 A6 c6) 33)) hb2)
   have HB2:=aq (below_step HB1.out HB12.out)
   have HZ2:=aq (blk_below HZ1.out HB12.out)
   obtain ⟨z0,z1,z2,z3⟩:=cells4f HZ2.out
   have zf:=blk_frozen HZ2.out
   obtain ⟨k0,k1,k2,k3,k4,k5,k6⟩:=cells7 (blk_below (World.alloc_heap_new w1 (Obj.cells (zC x A4 c4 A5 c5 A6 c6) 33)) hb2)
   clear hb2 e0 e1 HNM k0 k1 k2 k3 k4 k6
   go_wp2_with fail
   exact bodyPost_ret (results_ct rfl _ _ (w.heap.size + 1 + 1) 103 #[.string ⟨#[]⟩,.int .i64 0,.string ⟨#[]⟩,.bool false] (0,0) _ rfl (set4_own HZ2.out _ _ _ _) Try.underlying103 rfl (by kernel_rfl)) rfl ⟨rfl,set4_below HB2.out (by omega) _ _ _ _⟩
  ·
   skip
   go_enter Try.func50,Try.ntmps50
   go_wp2_with fail
   refine (HK.out).mono ?_
   rintro e w1 ⟨A4,c4,A5,c5,A6,c6,rfl,hFK,hb1⟩
   have HB1:=aq (below_step (below_alloc (below_alloc (below_alloc (Below.refl w.heap.size w) (Obj.cells (pG A0 l0 c0 A1 l1 c1 a2 a3 a4) 27)) (Obj.cells #[.string b0,.string b1] 44)) (Obj.cells #[.string ⟨#[]⟩,.int .i64 0,.string ⟨#[]⟩,.bool false] 103)) hb1)
   have HZ1:=aq (blk_below HZ.out hb1)
   obtain ⟨e0,e1⟩:=cells2f (blk_below HM.out hb1)
   have hl1 : w.heap.size + 1 < w1.heap.size:=blk_lt (blk_below HM.out hb1)
   have hl2 : w.heap.size + 1 + 1 < w1.heap.size:=blk_lt HZ1.out
   have HFK:=aq hFK
   clear hb1 hFK
   go_wp2_with fail
   have HO:=aq (class_opens HFK.out)
   have HNM:=aq (sr08_Field.calls x.f0 x.f1 x.f2 x.f3 A4 c4 x.f4 A5 c5 x.f5 A6 c6 x.f6 b1 _ (w1.alloc (Obj.cells (zC x A4 c4 A5 c5 A6 c6) 33)) (Kd.C_below HO.out.2.1 (below_alloc (Below.refl _ _) _)) HO.out.1 (Kd.C_below HO.out.2.2.2.1 (below_alloc (Below.refl _ _) _)) HO.out.2.2.1 (Kd.C_below HO.out.2.2.2.2.2 (below_alloc (Below.refl _ _) _)) HO.out.2.2.2.2.1 rfl)
   rw [HN.out] at HNM
   refine (HNM.out).mono ?_
   rintro e w2 ⟨rfl,hb2⟩
   have HB12:=aq (below_step (below_alloc (Below.refl w1.heap.size w1) (Obj.cells (zC x A4 c4 A5 c5 A6 c6) 33)) hb2)
   have HB2:=aq (below_step HB1.out HB12.out)
   have HZ2:=aq (blk_below HZ1.out HB12.out)
   obtain ⟨z0,z1,z2,z3⟩:=cells4f HZ2.out
   have zf:=blk_frozen HZ2.out
   obtain ⟨k0,k1,k2,k3,k4,k5,k6⟩:=cells7 (blk_below (World.alloc_heap_new w1 (Obj.cells (zC x A4 c4 A5 c5 A6 c6) 33)) hb2)
   clear hb2 e0 e1 HNM k0 k1 k2 k3 k4 k6
   go_wp2_with fail
   exact bodyPost_ret (results_ct rfl _ _ (w.heap.size + 1 + 1) 103 #[.string ⟨#[]⟩,.int .i64 0,.string ⟨#[]⟩,.bool false] (0,0) _ rfl (set4_own HZ2.out _ _ _ _) Try.underlying103 rfl (by kernel_rfl)) rfl ⟨rfl,set4_below HB2.out (by omega) _ _ _ _⟩
 ·
  have HN:=aq hn
  have hy : (x.f5.find? (isF b1)).getD z103 = x.f5[i]:=by rw [hf];rfl
  have hh : (x.f5.find? (isF b1)).isSome = true:=by rw [hf];rfl
  rw [hy,hh]
  clear hy hh hf hn
  obtain rfl : ok = true:=by
   cases ok
   ·
    rw [hz rfl] at hi;exact absurd hi (Nat.not_lt_zero _)
   ·
    rfl
  have d2 : decide ((i : Int) < 0) = false:=decide_eq_false (by omega)
  clear hz
  have d3 : (0 : Int) ≤ (i : Int):=by omega
  have d4 : (i : Int) < (x.f5.length : Int):=by omega
  have HI:=aq hi
  obtain ⟨y,hye⟩ : ∃ y,x.f5[i] = y:=⟨_,rfl⟩
  rw [hye]
  have HYE:=aq hye
  clear hye
  go_enter Try.func50,Try.ntmps50
  go_wp2_with fail
  refine (HK.out).mono ?_
  rintro e w1 ⟨A4,c4,A5,c5,A6,c6,rfl,hFK,hb1⟩
  have HB1:=aq (below_step (below_alloc (below_alloc (below_alloc (Below.refl w.heap.size w) (Obj.cells (pG A0 l0 c0 A1 l1 c1 a2 a3 a4) 27)) (Obj.cells #[.string b0,.string b1] 44)) (Obj.cells #[.string ⟨#[]⟩,.int .i64 0,.string ⟨#[]⟩,.bool false] 103)) hb1)
  have HZ1:=aq (blk_below HZ.out hb1)
  obtain ⟨e0,e1⟩:=cells2f (blk_below HM.out hb1)
  have hl1 : w.heap.size + 1 < w1.heap.size:=blk_lt (blk_below HM.out hb1)
  have hl2 : w.heap.size + 1 + 1 < w1.heap.size:=blk_lt HZ1.out
  have HFK:=aq hFK
  clear hb1 hFK
  go_wp2_with fail
  have HO:=aq (class_opens HFK.out)
  have HNM:=aq (sr08_Field.calls x.f0 x.f1 x.f2 x.f3 A4 c4 x.f4 A5 c5 x.f5 A6 c6 x.f6 b1 _ (w1.alloc (Obj.cells (zC x A4 c4 A5 c5 A6 c6) 33)) (Kd.C_below HO.out.2.1 (below_alloc (Below.refl _ _) _)) HO.out.1 (Kd.C_below HO.out.2.2.2.1 (below_alloc (Below.refl _ _) _)) HO.out.2.2.1 (Kd.C_below HO.out.2.2.2.2.2 (below_alloc (Below.refl _ _) _)) HO.out.2.2.2.2.1 rfl)
  rw [HN.out] at HNM
  refine (HNM.out).mono ?_
  rintro e w2 ⟨rfl,hb2⟩
  have HB12:=aq (below_step (below_alloc (Below.refl w1.heap.size w1) (Obj.cells (zC x A4 c4 A5 c5 A6 c6) 33)) hb2)
  have HB2:=aq (below_step HB1.out HB12.out)
  have HZ2:=aq (blk_below HZ1.out HB12.out)
  obtain ⟨z0,z1,z2,z3⟩:=cells4f HZ2.out
  have zf:=blk_frozen HZ2.out
  obtain ⟨k0,k1,k2,k3,k4,k5,k6⟩:=cells7 (blk_below (World.alloc_heap_new w1 (Obj.cells (zC x A4 c4 A5 c5 A6 c6) 33)) hb2)
  clear hb2 e0 e1 HNM k0 k1 k2 k3 k4 k6
  obtain ⟨ad,hA,h0,h1,h2,h3⟩:=at_T103 HO.out.2.2.2.1 (i : Int) (by omega) (Int.ofNat_lt.2 HI.out)
  subst hA
  rw [rdF_get x.f5 i HI.out,HYE.out,Int.toNat_natCast] at h0 h1 h2 h3
  replace h0:=(HB12.out.cell (cell_lt h0)).trans h0
  replace h1:=(HB12.out.cell (cell_lt h1)).trans h1
  replace h2:=(HB12.out.cell (cell_lt h2)).trans h2
  replace h3:=(HB12.out.cell (cell_lt h3)).trans h3
  go_wp2_with fail
  exact bodyPost_ret (results_ct rfl _ _ (w.heap.size + 1 + 1) 103 #[.string y.f0,.int .i64 y.f1.f0,.string y.f1.f1,.bool y.f2] (0,0) _ rfl (set4_own HZ2.out _ _ _ _) Try.underlying103 rfl (by kernel_rfl)) rfl ⟨rfl,set4_below HB2.out (by omega) _ _ _ _⟩
def sr12_FieldOf.f (l0_0 : List S33) (l0_1 : List ByteArray) (a0_2 a0_3 a0_4 a1_0 a1_1 : ByteArray) : Option (ByteArray × Int × ByteArray × Bool × Bool) :=
 let y:=getFd l0_0 a1_0 a1_1
 some (y.f0,y.f1.f0,y.f1.f1,y.f2,hasFd l0_0 a1_0 a1_1)
theorem sr12_FieldOf.calls (A0_0 : Option Addr) (c0_0 : Nat) (l0_0 : List S33) (A0_1 : Option Addr) (c0_1 : Nat) (l0_1 : List ByteArray) (a0_2 : ByteArray) (a0_3 : ByteArray) (a0_4 : ByteArray) (a1_0 : ByteArray) (a1_1 : ByteArray) (r1 : ByteArray) (r2 : Int) (r3 : ByteArray) (r4 : Bool) (r5 : Bool) (w : World) (hr0_0 : Kd.C k33 w A0_0 l0_0.length l0_0) (hc0_0 : l0_0.length ≤ c0_0) (hr0_1 : Kd.C Kd.string w A0_1 l0_1.length l0_1) (hc0_1 : l0_1.length ≤ c0_1) (h : sr12_FieldOf.f l0_0 l0_1 a0_2 a0_3 a0_4 a1_0 a1_1 = some (r1, r2, r3, r4, r5)) :
  Calls Try.prog 50 #[.agg (pG A0_0 l0_0 c0_0 A0_1 l0_1 c0_1 a0_2 a0_3 a0_4),.agg #[.string a1_0,.string a1_1]] w fun e w' => e = .returned (.tuple #[.agg #[.string r1,.int .i64 r2,.string r3,.bool r4],.bool r5]) ∧ Below w.heap.size w w':=by
 unfold sr12_FieldOf.f at h
 simp only [Option.some.injEq,Prod.mk.injEq] at h
 obtain ⟨rfl,rfl,rfl,rfl,rfl⟩:=h
 exact ref_fieldOf _ A0_0 c0_0 l0_0 A0_1 c0_1 l0_1 a0_2 a0_3 a0_4 a1_0 a1_1 w (F_of_C heapC hr0_0) hc0_0 hr0_1 hc0_1
theorem field_at {w : World} {A : Option Addr} {xs : List S103} (h : Kd.C k103 w A xs.length xs) {i : Nat} (hi : i < xs.length) : ∃ ad, A = some ad ∧ w.cell? (ad.add (i * 4)) = some (.string xs[i].f0) ∧ w.cell? ⟨(ad.add (i * 4)).block, (ad.add (i * 4)).off + 1, none⟩ = some (.int .i64 xs[i].f1.f0) ∧ w.cell? ⟨(ad.add (i * 4)).block, (ad.add (i * 4)).off + 2, none⟩ = some (.string xs[i].f1.f1) ∧ w.cell? ⟨(ad.add (i * 4)).block, (ad.add (i * 4)).off + 3, none⟩ = some (.bool xs[i].f2) ∧ k103.K w xs[i] [.string xs[i].f0, .int .i64 xs[i].f1.f0, .string xs[i].f1.f1, .bool xs[i].f2] := by
 obtain ⟨ad,e,h0,h1,h2,h3⟩:=at_T103 h (i : Int) (by omega) (by omega)
 rw [rdF_get xs i hi,Int.toNat_natCast] at h0 h1 h2 h3
 exact ⟨ad,e,h0,h1,h2,h3,k103_mk w xs[i]⟩
theorem index_field (p : S103 → Bool) (g : Nat) (A : Option Addr) (c : Nat) (xs : List (S103)) (w : World) (hC : Kd.C k103 w A xs.length xs) (hc : xs.length ≤ c)
  (hp : ∀ (x : S103) (cs : List Value) (W : World),x ∈ xs → Below w.heap.size w W → k103.K W x cs → Calls Try.prog 108 (#[.agg cs.toArray,.pointer (some ⟨g,0,none⟩)]) W fun e w' => e = .returned (.bool (p x)) ∧ Below W.heap.size W w') :
  Calls Try.prog 107 #[.slice A xs.length c,.func (.func 108) #[] #[.pointer (some ⟨g,0,none⟩)]] w fun e w' => e = .returned (.int .i64 (idxI p xs)) ∧ Below w.heap.size w w':=by
 have HC:=aq hC
 have HP:=aq hp
 have hmx:=hC.2.1
 clear hC hp
 go_enter Try.func107,Try.ntmps107
 go_wp2
 go_loopg [8] xs.length (fun kq v8 wr => ∃ i : Nat,v8 = .int .i64 (i : Int) ∧ i + kq = xs.length ∧ Aside0 (∀ j (hj : j < xs.length),j < i → p xs[j] = false) ∧ Aside0 (Below w.heap.size w wr))
 case atStart => exact ⟨0,rfl,by omega,⟨fun j _ h => absurd h (Nat.not_lt_zero j)⟩,⟨Below.refl _ _⟩⟩
 case round =>
  obtain ⟨i,rfl,hi,HA,HB⟩:=hrel
  by_cases hlt : i < xs.length
  ·
   obtain ⟨ad,rfl,h0,h1,h2,h3,hK⟩:=field_at (Kd.C_below HC.out HB.out) hlt
   have HPX:=aq (HP.out xs[i] _ wr (List.getElem_mem hlt) HB.out hK)
   clear hK
   have hd : decide ((i : Int) < (xs.length : Int)) = true:=decide_eq_true (by omega)
   cases hbd : p xs[i] with
   | true =>
    have HBD:=aq hbd
    rw [hbd] at HPX
    clear hbd
    go_wp2_with (go_at_call 108;refine HPX.out.mono ?_;rintro e w1 ⟨rfl,hb⟩;have HB1:=aq (HB.out.trans (hb.mono HB.out.size)))
    refine bodyPost_ret (results_tmp rfl _ _ _) rfl ⟨?_,HB1.out⟩
    rw [idxI_at hlt HBD.out HA.out]
    rfl
   | false =>
    have HBF:=aq hbd
    rw [hbd] at HPX
    clear hbd
    go_wp2_with (go_at_call 108;refine HPX.out.mono ?_;rintro e w1 ⟨rfl,hb⟩;have HB1:=aq (HB.out.trans (hb.mono HB.out.size)))
    go_roundg (gk - 1)
    case measure => omega
    case rel =>
     refine ⟨i + 1,by simp,by omega,⟨fun j hj hji => ?_⟩,HB1⟩
     by_cases e : j = i
     ·
      subst e
      exact HBF.out
     ·
      exact HA.out j hj (by omega)
  ·
   have hd : decide ((i : Int) < (xs.length : Int)) = false:=decide_eq_false (by omega)
   have HF : Aside0 (∀ x ∈ xs,p x = false):=⟨fun x hx => by
    obtain ⟨j,hj,rfl⟩:=List.mem_iff_getElem.1 hx
    exact HA.out j hj (by omega)⟩
   go_wp2
   go_ret
   rw [idxI_no HF.out]
   exact ⟨rfl,HB.out⟩
theorem field_lit (x : S103) (cs : List Value) (g : Nat) (name : ByteArray) (w : World) (hK : k103.K w x cs) (hs : w.cell? ⟨g, 0, none⟩ = some (.string name)) :
  Calls Try.prog 108 #[.agg cs.toArray,.pointer (some ⟨g,0,none⟩)] w fun e w' => e = .returned (.bool (isF name x)) ∧ Below w.heap.size w w':=by
 obtain rfl:=k103_open hK
 have hg:=cell_lt hs
 clear hK
 go_enter Try.func108,Try.ntmps108
 go_wp2
 go_ret
 exact ⟨rfl,by first|exact below_alloc (Below.refl _ _) _|exact Below.refl _ _⟩
def norm_Field.f (a0_0 a0_1 : ByteArray) (a0_2 a0_3 : Bool) (l0_4 : List ByteArray) (l0_5 : List S103) (l0_6 : List S37) (a1 : ByteArray) : Option Int := some (idxI (isF a1) l0_5)
theorem norm_Field.calls (a0_0 : ByteArray) (a0_1 : ByteArray) (a0_2 : Bool) (a0_3 : Bool) (A0_4 : Option Addr) (c0_4 : Nat) (l0_4 : List ByteArray) (A0_5 : Option Addr) (c0_5 : Nat) (l0_5 : List S103) (A0_6 : Option Addr) (c0_6 : Nat) (l0_6 : List S37) (a1 : ByteArray) (r : Int) (w : World) (hr0_4 : Kd.C Kd.string w A0_4 l0_4.length l0_4) (hc0_4 : l0_4.length ≤ c0_4) (hr0_5 : Kd.C k103 w A0_5 l0_5.length l0_5) (hc0_5 : l0_5.length ≤ c0_5) (hr0_6 : Kd.C k37 w A0_6 l0_6.length l0_6) (hc0_6 : l0_6.length ≤ c0_6) (h : norm_Field.f a0_0 a0_1 a0_2 a0_3 l0_4 l0_5 l0_6 a1 = some r) :
  Calls Try.prog 101 #[.agg #[.string a0_0,.string a0_1,.bool a0_2,.bool a0_3,.slice A0_4 l0_4.length c0_4,.slice A0_5 l0_5.length c0_5,.slice A0_6 l0_6.length c0_6],.string a1] w fun e w' => e = .returned (.int .i64 r) ∧ Below w.heap.size w w':=by
 obtain rfl : idxI (isF a1) l0_5 = r:=Option.some.inj h
 have HC:=aq hr0_5
 clear h hr0_4 hr0_5 hr0_6
 go_enter Try.func101,Try.ntmps101
 go_wp2_with fail
 refine (index_field (isF a1) (w.heap.size + 1) A0_5 c0_5 l0_5 _ (Kd.C_below HC.out (below_alloc (below_alloc (Below.refl _ _) _) _)) hc0_5 (fun x cs W _ hb hK => field_lit x cs _ a1 W hK ((hb.cell (by simp)).trans (by simp)))).mono ?_
 rintro e w1 ⟨rfl,hb⟩
 go_wp2_with fail
 exact bodyPost_ret (results_tmp rfl _ _ _) rfl ⟨rfl,below_step (below_alloc (below_alloc (Below.refl _ _) _) _) hb⟩
theorem ffield_lit (P : Nat → Prop) (A0 : Option Addr) (c0 : Nat) (l0 : List S33) (A1 : Option Addr) (c1 : Nat) (l1 : List ByteArray) (a2 a3 a4 : ByteArray) (pb mb : Nat) (n s : ByteArray) (w : World) (hs : Kd.F k33 w P A0 l0.length l0) (hc : l0.length ≤ c0) (hr1 : Kd.C Kd.string w A1 l1.length l1) (hc1 : l1.length ≤ c1) (hpb : w.heap[pb]? = some (Obj.cells (pG A0 l0 c0 A1 l1 c1 a2 a3 a4) 27 (0, 0))) (u0 : Value) (hmb : w.heap[mb]? = some (Obj.cells #[u0, .string n] 44 (0, 0))) :
  Calls Try.prog 100 #[.string s,.pointer (some ⟨pb,0,none⟩),.pointer (some ⟨mb,0,none⟩)] w fun e w' => e = .returned (.bool (hasFd l0 s n)) ∧ Below w.heap.size w w':=by
 obtain ⟨p0,p1,p2,p3,p4⟩:=cells5 hpb
 obtain ⟨m0,m1⟩:=cells2f hmb
 have HK:=aq (fun W (hW : Below w.heap.size w W) => find_known P A0 c0 l0 A1 c1 l1 a2 a3 a4 s W (Kd.F_below hs hW) hc (Kd.C_below hr1 hW) hc1)
 have HB:=aq (below_drew1 (Below.refl w.heap.size w))
 have HN : Aside0 (hasFd l0 s n = decide (idxI (isF n) (knownC l0 s).f5 ≥ 0)):=⟨by
  unfold hasFd
  rcases idxI_cases (isF n) (knownC l0 s).f5 with ⟨h1,h2⟩|⟨i,hi,h1,h2⟩
  ·
   rw [h1,h2];rfl
  ·
   rw [h1,h2,decide_eq_true (by omega)];rfl⟩
 rw [HN.out]
 obtain ⟨x,hx⟩ : ∃ x,knownC l0 s = x:=⟨_,rfl⟩
 rw [hx] at HK ⊢
 clear hx hs hr1 HN
 have HP:=aq hpb
 have HM:=aq hmb
 clear hpb hmb
 go_enter Try.func100,Try.ntmps100
 go_wp2_with fail
 go_region_held3 (fun w' => w'.cell? ⟨pb,0,none⟩ = some (.slice A0 l0.length c0) ∧ w'.cell? ⟨pb,1,none⟩ = some (.slice A1 l1.length c1) ∧ w'.cell? ⟨pb,2,none⟩ = some (.string a2) ∧ w'.cell? ⟨pb,3,none⟩ = some (.string a3) ∧ w'.cell? ⟨pb,4,none⟩ = some (.string a4) ∧ w'.cell? ⟨mb,1,none⟩ = some (.string n)) (first|exact ⟨p0,p1,p2,p3,p4,m1⟩) (first
  | (go_at_call 35;refine (HK.out _ HB.out).mono ?_;rintro e w2 ⟨A4,c4,A5,c5,A6,c6,rfl,hFK,hb⟩;have HO:=aq (class_opens hFK);have HB2:=aq (below_step HB.out hb);clear hFK hb p0 p1 p2 p3 p4 m0 m1;obtain ⟨p0,p1,p2,p3,p4⟩:=cells5 (blk_below HP.out HB2.out);obtain ⟨m0,m1⟩:=cells2f (blk_below HM.out HB2.out))
  | (go_at_call 101;refine (norm_Field.calls x.f0 x.f1 x.f2 x.f3 _ _ x.f4 _ _ x.f5 _ _ x.f6 n _ _ HO.out.2.1 HO.out.1 HO.out.2.2.2.1 HO.out.2.2.1 HO.out.2.2.2.2.2 HO.out.2.2.2.2.1 rfl).mono ?_;rintro e w3 ⟨rfl,hb⟩;have HB3:=aq (below_step HB2.out hb);clear hb p0 p1 p2 p3 p4 m0 m1;obtain ⟨p0,p1,p2,p3,p4⟩:=cells5 (blk_below HP.out HB3.out);obtain ⟨m0,m1⟩:=cells2f (blk_below HM.out HB3.out)))
 all_goals go_wp2_with fail
 all_goals exact bodyPost_ret (results_tmp rfl _ _ _) rfl ⟨rfl,HB3.out⟩
theorem findex_str (p : ByteArray → Bool) (pb mb : Nat) (A : Option Addr) (c : Nat) (xs : List ByteArray) (w : World) (hC : Kd.C Kd.string w A xs.length xs) (hc : xs.length ≤ c)
  (hp : ∀ (x : ByteArray) (W : World),Below w.heap.size w W → Calls Try.prog 100 #[.string x,.pointer (some ⟨pb,0,none⟩),.pointer (some ⟨mb,0,none⟩)] W fun e w' => e = .returned (.bool (p x)) ∧ Below W.heap.size W w') :
  Calls Try.prog 82 #[.slice A xs.length c,.func (.func 100) #[] #[.pointer (some ⟨pb,0,none⟩),.pointer (some ⟨mb,0,none⟩)]] w fun e w' => e = .returned (.int .i64 (idxI p xs)) ∧ Below w.heap.size w w':=by
 have HC:=aq hC
 have HP:=aq hp
 have hmx:=hC.2.1
 clear hC hp
 go_enter Try.func82,Try.ntmps82
 go_wp2
 go_loopg [8] xs.length (fun kq v8 wr => ∃ i : Nat,v8 = .int .i64 (i : Int) ∧ i + kq = xs.length ∧ Aside0 (∀ j (hj : j < xs.length),j < i → p xs[j] = false) ∧ Aside0 (Below w.heap.size w wr))
 case atStart => exact ⟨0,rfl,by omega,⟨fun j _ h => absurd h (Nat.not_lt_zero j)⟩,⟨Below.refl _ _⟩⟩
 case round =>
  obtain ⟨i,rfl,hi,HA,HB⟩:=hrel
  by_cases hlt : i < xs.length
  ·
   obtain ⟨ad,rfl,h0⟩:=Kd.at_string (Kd.C_below HC.out HB.out) (i : Int) (by omega) (by omega)
   have hx : rdOf ByteArray.empty xs (i : Int) = xs[i]:=by
    unfold rdOf
    rw [Int.toNat_natCast,List.getD_eq_getElem?_getD,List.getElem?_eq_getElem hlt]
    rfl
   rw [hx,Int.toNat_natCast] at h0
   have HPX:=aq (HP.out xs[i] wr HB.out)
   have hd : decide ((i : Int) < (xs.length : Int)) = true:=decide_eq_true (by omega)
   clear hx
   cases hbd : p xs[i] with
   | true =>
    have HBD:=aq hbd
    rw [hbd] at HPX
    clear hbd
    go_wp2_with (go_at_call 100;refine HPX.out.mono ?_;rintro e w1 ⟨rfl,hb⟩;have HB1:=aq (HB.out.trans (hb.mono HB.out.size)))
    refine bodyPost_ret (results_tmp rfl _ _ _) rfl ⟨?_,HB1.out⟩
    rw [idxI_at hlt HBD.out HA.out]
    rfl
   | false =>
    have HBF:=aq hbd
    rw [hbd] at HPX
    clear hbd
    go_wp2_with (go_at_call 100;refine HPX.out.mono ?_;rintro e w1 ⟨rfl,hb⟩;have HB1:=aq (HB.out.trans (hb.mono HB.out.size)))
    go_roundg (gk - 1)
    case measure => omega
    case rel =>
     refine ⟨i + 1,by simp,by omega,⟨fun j hj hji => ?_⟩,HB1⟩
     by_cases e : j = i
     ·
      subst e
      exact HBF.out
     ·
      exact HA.out j hj (by omega)
  ·
   have hd : decide ((i : Int) < (xs.length : Int)) = false:=decide_eq_false (by omega)
   have HF : Aside0 (∀ x ∈ xs,p x = false):=⟨fun x hx => by
    obtain ⟨j,hj,rfl⟩:=List.mem_iff_getElem.1 hx
    exact HA.out j hj (by omega)⟩
   go_wp2
   go_ret
   rw [idxI_no HF.out]
   exact ⟨rfl,HB.out⟩
theorem ffind_among (p : ByteArray → Bool) (pb mb : Nat) (A : Option Addr) (c : Nat) (xs : List ByteArray) (w : World) (hC : Kd.C Kd.string w A xs.length xs) (hc : xs.length ≤ c)
  (hp : ∀ (x : ByteArray) (W : World),Below w.heap.size w W → Calls Try.prog 100 #[.string x,.pointer (some ⟨pb,0,none⟩),.pointer (some ⟨mb,0,none⟩)] W fun e w' => e = .returned (.bool (p x)) ∧ Below W.heap.size W w') :
  Calls Try.prog 56 #[.slice A xs.length c,.func (.func 100) #[] #[.pointer (some ⟨pb,0,none⟩),.pointer (some ⟨mb,0,none⟩)]] w fun e w' => e = .returned (.tuple #[.string ((xs.find? p).getD ⟨#[]⟩),.bool (xs.find? p).isSome]) ∧ Below w.heap.size w w':=by
 have HI:=aq (findex_str p pb mb A c xs w hC hc hp)
 have HC:=aq hC
 clear hp hC
 rcases idxI_cases p xs with ⟨hn,hf⟩|⟨i,hi,hn,hf⟩
 ·
  rw [hn] at HI
  rw [hf]
  clear hn hf
  go_enter Try.func56,Try.ntmps56
  go_wp2_with fail
  refine HI.out.mono ?_
  rintro e w1 ⟨rfl,hb⟩
  have HB:=aq hb
  clear hb
  go_wp2_with fail
  exact bodyPost_ret (results_tmp2 rfl _ _ _) rfl ⟨rfl,HB.out⟩
 ·
  rw [hn] at HI
  rw [hf]
  obtain ⟨ad,rfl,h0⟩:=Kd.at_string HC.out (i : Int) (by omega) (by omega)
  have hx : rdOf ByteArray.empty xs (i : Int) = xs[i]:=by
   unfold rdOf
   rw [Int.toNat_natCast,List.getD_eq_getElem?_getD,List.getElem?_eq_getElem hi]
   rfl
  rw [hx,Int.toNat_natCast] at h0
  obtain ⟨y,hy⟩ : ∃ y,xs[i] = y:=⟨_,rfl⟩
  rw [hy] at h0 ⊢
  have H0:=aq h0
  have d2 : decide ((i : Int) ≥ 0) = true:=decide_eq_true (by omega)
  have d3 : (0 : Int) ≤ (i : Int):=by omega
  have d4 : (i : Int) < (xs.length : Int):=by omega
  clear hn hf hx hy h0
  go_enter Try.func56,Try.ntmps56
  go_wp2_with fail
  refine HI.out.mono ?_
  rintro e w1 ⟨rfl,hb⟩
  have HB:=aq hb
  have h1:=(hb.cell (cell_lt H0.out)).trans H0.out
  clear hb
  go_wp2_with fail
  exact bodyPost_ret (results_tmp2 rfl _ _ _) rfl ⟨rfl,HB.out⟩
def fldF (l0 : List S33) (xs : List ByteArray) (n : ByteArray) : ByteArray × ByteArray × Bool :=
 match xs.find? (fun s => hasFd l0 s n) with
 | none => (⟨#[]⟩,⟨#[]⟩,false)
 | some s => (s,n,true)
theorem set2_own {w : World} {R : Nat} {t : TypeId} {u0 u1 : Value} (h : w.heap[R]? = some (Obj.cells #[u0, u1] t (0, 0))) (v0 v1 : Value) : ((w.setCell ⟨R, 0, none⟩ v0).setCell ⟨R, 1, none⟩ v1).heap[R]? = some (Obj.cells #[v0, v1] t (0, 0)) :=
 (blk_put (cs:=#[v0,u1]) (blk_put (cs:=#[u0,u1]) h 0 v0 rfl) 1 v1 rfl)
theorem set2_below {w0 w : World} {R : Nat} (h : Below w0.heap.size w0 w) (hR : w0.heap.size ≤ R) (v0 v1 : Value) : Below w0.heap.size w0 ((w.setCell ⟨R, 0, none⟩ v0).setCell ⟨R, 1, none⟩ v1) := below_set (below_set h hR) hR
def find_Field.f (l0_0 : List S33) (l0_1 : List ByteArray) (a0_2 a0_3 a0_4 b0 b1 : ByteArray) : Option (ByteArray × ByteArray × Bool) := (hier_Supers.f l0_0 l0_1 a0_2 a0_3 a0_4 b0).map fun xs => fldF l0_0 xs b1
theorem find_Field.calls (A0_0 : Option Addr) (c0_0 : Nat) (l0_0 : List S33) (A0_1 : Option Addr) (c0_1 : Nat) (l0_1 : List ByteArray) (a0_2 : ByteArray) (a0_3 : ByteArray) (a0_4 : ByteArray) (b0 b1 : ByteArray) (r1 r2 : ByteArray) (r3 : Bool) (w : World) (hr0_0 : Kd.C k33 w A0_0 l0_0.length l0_0) (hc0_0 : l0_0.length ≤ c0_0) (hr0_1 : Kd.C Kd.string w A0_1 l0_1.length l0_1) (hc0_1 : l0_1.length ≤ c0_1) (h : find_Field.f l0_0 l0_1 a0_2 a0_3 a0_4 b0 b1 = some (r1, r2, r3)) :
  Calls Try.prog 90 #[.agg (pG A0_0 l0_0 c0_0 A0_1 l0_1 c0_1 a0_2 a0_3 a0_4),.agg #[.string b0,.string b1]] w fun e w' => e = .returned (.tuple #[.agg #[.string r1,.string r2],.bool r3]) ∧ Below w.heap.size w w':=by
 unfold find_Field.f at h
 obtain ⟨xs,hx,hd⟩:=Option.map_eq_some_iff.1 h
 have HS:=aq (fun W (hW : Below w.heap.size w W) => hier_Supers.calls A0_0 c0_0 l0_0 A0_1 c0_1 l0_1 a0_2 a0_3 a0_4 b0 xs W (Kd.C_below hr0_0 hW) hc0_0 (Kd.C_below hr0_1 hW) hc0_1 hx)
 have HR0:=aq (F_of_C heapC hr0_0)
 have HR1:=aq hr0_1
 have hp : (((w.alloc (Obj.cells (pG A0_0 l0_0 c0_0 A0_1 l0_1 c0_1 a0_2 a0_3 a0_4) 27)).alloc (Obj.cells #[.string b0,.string b1] 44)).alloc (Obj.cells #[.string ⟨#[]⟩,.string ⟨#[]⟩] 44)).heap[w.heap.size]? = some (Obj.cells (pG A0_0 l0_0 c0_0 A0_1 l0_1 c0_1 a0_2 a0_3 a0_4) 27 (0,0)):=blk_alloc (blk_alloc (World.alloc_heap_new w (Obj.cells (pG A0_0 l0_0 c0_0 A0_1 l0_1 c0_1 a0_2 a0_3 a0_4) 27)) _) _
 have hm : (((w.alloc (Obj.cells (pG A0_0 l0_0 c0_0 A0_1 l0_1 c0_1 a0_2 a0_3 a0_4) 27)).alloc (Obj.cells #[.string b0,.string b1] 44)).alloc (Obj.cells #[.string ⟨#[]⟩,.string ⟨#[]⟩] 44)).heap[w.heap.size + 1]? = some (Obj.cells #[.string b0,.string b1] 44 (0,0)):=by
  have h:=World.alloc_heap_new (w.alloc (Obj.cells (pG A0_0 l0_0 c0_0 A0_1 l0_1 c0_1 a0_2 a0_3 a0_4) 27)) (Obj.cells #[.string b0,.string b1] 44)
  rw [World.size_alloc] at h
  exact blk_alloc h _
 have hz : (((w.alloc (Obj.cells (pG A0_0 l0_0 c0_0 A0_1 l0_1 c0_1 a0_2 a0_3 a0_4) 27)).alloc (Obj.cells #[.string b0,.string b1] 44)).alloc (Obj.cells #[.string ⟨#[]⟩,.string ⟨#[]⟩] 44)).heap[w.heap.size + 1 + 1]? = some (Obj.cells #[.string ⟨#[]⟩,.string ⟨#[]⟩] 44 (0,0)):=by
  have h:=World.alloc_heap_new ((w.alloc (Obj.cells (pG A0_0 l0_0 c0_0 A0_1 l0_1 c0_1 a0_2 a0_3 a0_4) 27)).alloc (Obj.cells #[.string b0,.string b1] 44)) (Obj.cells #[.string ⟨#[]⟩,.string ⟨#[]⟩] 44)
  rw [World.size_alloc,World.size_alloc] at h
  exact h
 have HB0:=aq (below_alloc (below_alloc (below_alloc (Below.refl w.heap.size w) (Obj.cells (pG A0_0 l0_0 c0_0 A0_1 l0_1 c0_1 a0_2 a0_3 a0_4) 27)) (Obj.cells #[.string b0,.string b1] 44)) (Obj.cells #[.string ⟨#[]⟩,.string ⟨#[]⟩] 44))
 have HP:=aq hp
 have HM:=aq hm
 have HZ:=aq hz
 clear h hx hr0_0 hr0_1 hp hm hz
 have key : ∀ r : ByteArray × ByteArray × Bool,fldF l0_0 xs b1 = r → r = (r1,r2,r3):=fun r e => by rw [← e];exact hd
 clear hd
 cases hf : xs.find? (fun s => hasFd l0_0 s b1) with
 | none =>
  have hk:=key (⟨#[]⟩,⟨#[]⟩,false) (by unfold fldF;rw [hf])
  simp only [Prod.mk.injEq] at hk
  obtain ⟨rfl,rfl,rfl⟩:=hk
  have HF:=aq hf
  clear key hf
  go_enter Try.func90,Try.ntmps90
  go_wp2_with fail
  refine (HS.out _ HB0.out).mono ?_
  rintro e w1 ⟨v,rfl,hR,hb⟩
  obtain ⟨A,c,rfl,hcx,hCx⟩:=Kd.R_reads hR
  have HB1:=aq (below_step HB0.out hb)
  have HP1:=aq (blk_below HP.out hb)
  have HM1:=aq (blk_below HM.out hb)
  have HZ1:=aq (blk_below HZ.out hb)
  have HCX:=aq hCx
  clear hb hR hCx
  obtain ⟨m0,m1⟩:=cells2f HM1.out
  go_wp2_with fail
  have HA:=aq (ffind_among (fun s => hasFd l0_0 s b1) w.heap.size (w.heap.size + 1) A c xs w1 HCX.out hcx (fun x W hW => ffield_lit (fun k => k < w.heap.size) A0_0 c0_0 l0_0 A0_1 c0_1 l0_1 a0_2 a0_3 a0_4 w.heap.size (w.heap.size + 1) b1 x W (Kd.F_below HR0.out (below_step HB1.out hW)) hc0_0 (Kd.C_below HR1.out (below_step HB1.out hW)) hc0_1 (blk_below HP1.out hW) _ (blk_below HM1.out hW)))
  rw [HF.out] at HA
  refine HA.out.mono ?_
  rintro e w2 ⟨rfl,hb⟩
  have HB2:=aq (below_step HB1.out hb)
  have HZ2:=aq (blk_below HZ1.out hb)
  obtain ⟨m0,m1⟩:=cells2f (blk_below HM1.out hb)
  obtain ⟨z0,z1⟩:=cells2f HZ2.out
  have zf:=blk_frozen HZ2.out
  clear hb HA
  go_wp2_with fail
  exact bodyPost_ret (results_ct rfl _ _ (w.heap.size + 1 + 1) 44 #[.string ⟨#[]⟩,.string ⟨#[]⟩] (0,0) _ rfl (set2_own HZ2.out _ _) Try.underlying44 rfl (by kernel_rfl)) rfl ⟨rfl,set2_below HB2.out (by omega) _ _⟩
 | some s =>
  have hk:=key (s,b1,true) (by unfold fldF;rw [hf])
  simp only [Prod.mk.injEq] at hk
  obtain ⟨rfl,rfl,rfl⟩:=hk
  have HF:=aq hf
  clear key hf
  go_enter Try.func90,Try.ntmps90
  go_wp2_with fail
  refine (HS.out _ HB0.out).mono ?_
  rintro e w1 ⟨v,rfl,hR,hb⟩
  obtain ⟨A,c,rfl,hcx,hCx⟩:=Kd.R_reads hR
  have HB1:=aq (below_step HB0.out hb)
  have HP1:=aq (blk_below HP.out hb)
  have HM1:=aq (blk_below HM.out hb)
  have HZ1:=aq (blk_below HZ.out hb)
  have HCX:=aq hCx
  clear hb hR hCx
  obtain ⟨m0,m1⟩:=cells2f HM1.out
  go_wp2_with fail
  have HA:=aq (ffind_among (fun s => hasFd l0_0 s b1) w.heap.size (w.heap.size + 1) A c xs w1 HCX.out hcx (fun x W hW => ffield_lit (fun k => k < w.heap.size) A0_0 c0_0 l0_0 A0_1 c0_1 l0_1 a0_2 a0_3 a0_4 w.heap.size (w.heap.size + 1) b1 x W (Kd.F_below HR0.out (below_step HB1.out hW)) hc0_0 (Kd.C_below HR1.out (below_step HB1.out hW)) hc0_1 (blk_below HP1.out hW) _ (blk_below HM1.out hW)))
  rw [HF.out] at HA
  refine HA.out.mono ?_
  rintro e w2 ⟨rfl,hb⟩
  have HB2:=aq (below_step HB1.out hb)
  have HZ2:=aq (blk_below HZ1.out hb)
  obtain ⟨m0,m1⟩:=cells2f (blk_below HM1.out hb)
  obtain ⟨z0,z1⟩:=cells2f HZ2.out
  have zf:=blk_frozen HZ2.out
  clear hb HA
  go_wp2_with fail
  exact bodyPost_ret (results_ct rfl _ _ (w.heap.size + 1 + 1) 44 #[.string _,.string _] (0,0) _ rfl (set2_own HZ2.out _ _) Try.underlying44 rfl (by kernel_rfl)) rfl ⟨rfl,set2_below HB2.out (by omega) _ _⟩
def mayS (x : S37) : Bool := x.f2
theorem static_lit (x : S37) (cs : List Value) (w : World) (hK : k37.K w x cs) :
  Calls Try.prog 103 #[.agg cs.toArray] w fun e w' => e = .returned (.bool (mayS x)) ∧ Below w.heap.size w w':=by
 obtain ⟨A5,c5,rfl,_⟩:=k37_open hK
 clear hK
 unfold mayS
 go_enter Try.func103,Try.ntmps103
 go_wp2
 go_ret
 exact ⟨rfl,by first|exact below_alloc (Below.refl _ _) _|exact Below.refl _ _⟩
def decS (l0 : List S33) (xs : List ByteArray) (n d : ByteArray) : ByteArray × ByteArray × ByteArray × Bool :=
 match xs.find? (fun s => hasM l0 s n d) with
 | none => (⟨#[]⟩,⟨#[]⟩,⟨#[]⟩,false)
 | some s => if mayS (getM l0 s n d) = true then (s,n,d,true) else (⟨#[]⟩,⟨#[]⟩,⟨#[]⟩,false)
theorem find_declaredS (A0 : Option Addr) (c0 : Nat) (l0 : List S33) (A1 : Option Addr) (c1 : Nat) (l1 : List ByteArray) (a2 a3 a4 : ByteArray) (A : Option Addr) (c : Nat) (xs : List ByteArray) (cl n d : ByteArray) (w : World) (hr0 : Kd.C k33 w A0 l0.length l0) (hc0 : l0.length ≤ c0) (hr1 : Kd.C Kd.string w A1 l1.length l1) (hc1 : l1.length ≤ c1) (hC : Kd.C Kd.string w A xs.length xs) (hc : xs.length ≤ c) :
  Calls Try.prog 33 #[.agg (pG A0 l0 c0 A1 l1 c1 a2 a3 a4),.slice A xs.length c,.agg #[.string cl,.string n,.string d],.func (.func 103) #[] #[]] w fun e w' => e = .returned (.tuple #[.agg #[.string (decS l0 xs n d).1,.string (decS l0 xs n d).2.1,.string (decS l0 xs n d).2.2.1],.bool (decS l0 xs n d).2.2.2]) ∧ Below w.heap.size w w':=by
 have HC0:=aq (F_of_C heapC hr0)
 have HC1:=aq hr1
 have HP : Aside0 ((((w.alloc (Obj.cells (pG A0 l0 c0 A1 l1 c1 a2 a3 a4) 27)).alloc (Obj.cells #[.string cl,.string n,.string d] 25)).alloc (Obj.cells zR 25)).heap[w.heap.size]? = some (Obj.cells (pG A0 l0 c0 A1 l1 c1 a2 a3 a4) 27 (0,0))):=⟨blk_alloc (blk_alloc (World.alloc_heap_new w (Obj.cells (pG A0 l0 c0 A1 l1 c1 a2 a3 a4) 27)) _) _⟩
 have HM : Aside0 ((((w.alloc (Obj.cells (pG A0 l0 c0 A1 l1 c1 a2 a3 a4) 27)).alloc (Obj.cells #[.string cl,.string n,.string d] 25)).alloc (Obj.cells zR 25)).heap[w.heap.size + 1]? = some (Obj.cells #[.string cl,.string n,.string d] 25 (0,0))):=⟨by
  have h:=World.alloc_heap_new (w.alloc (Obj.cells (pG A0 l0 c0 A1 l1 c1 a2 a3 a4) 27)) (Obj.cells #[.string cl,.string n,.string d] 25)
  rw [World.size_alloc] at h
  exact blk_alloc h _⟩
 have HZ : Aside0 ((((w.alloc (Obj.cells (pG A0 l0 c0 A1 l1 c1 a2 a3 a4) 27)).alloc (Obj.cells #[.string cl,.string n,.string d] 25)).alloc (Obj.cells zR 25)).heap[w.heap.size + 1 + 1]? = some (Obj.cells zR 25 (0,0))):=⟨by
  have h:=World.alloc_heap_new ((w.alloc (Obj.cells (pG A0 l0 c0 A1 l1 c1 a2 a3 a4) 27)).alloc (Obj.cells #[.string cl,.string n,.string d] 25)) (Obj.cells zR 25)
  rw [World.size_alloc,World.size_alloc] at h
  exact h⟩
 have hb3 : Below w.heap.size w (((w.alloc (Obj.cells (pG A0 l0 c0 A1 l1 c1 a2 a3 a4) 27)).alloc (Obj.cells #[.string cl,.string n,.string d] 25)).alloc (Obj.cells zR 25)):=below_alloc (below_alloc (below_alloc (Below.refl _ _) _) _) _
 have HA:=aq (find_among (fun s => hasM l0 s n d) w.heap.size (w.heap.size + 1) A c xs (((w.alloc (Obj.cells (pG A0 l0 c0 A1 l1 c1 a2 a3 a4) 27)).alloc (Obj.cells #[.string cl,.string n,.string d] 25)).alloc (Obj.cells zR 25)) (Kd.C_below hC hb3) hc (fun x W hW => declared_lit (fun k => k < w.heap.size) A0 c0 l0 A1 c1 l1 a2 a3 a4 w.heap.size (w.heap.size + 1) n d x W (Kd.F_below (Kd.F_below HC0.out hb3) hW) hc0 (Kd.C_below (Kd.C_below hr1 hb3) hW) hc1 (blk_below HP.out hW) _ (blk_below HM.out hW)))
 clear hb3 hr0 hr1 hC
 cases hf : xs.find? (fun s => hasM l0 s n d) with
 | none =>
  have hd : decS l0 xs n d = (⟨#[]⟩,⟨#[]⟩,⟨#[]⟩,false):=by unfold decS;rw [hf]
  rw [hd]
  rw [hf] at HA
  clear hf hd
  go_enter Try.func33,Try.ntmps33
  go_wp2_with fail
  refine HA.out.mono ?_
  rintro e w1 ⟨rfl,hb⟩
  have HB1:=aq (below_step (below_alloc (below_alloc (below_alloc (Below.refl w.heap.size w) (Obj.cells (pG A0 l0 c0 A1 l1 c1 a2 a3 a4) 27)) (Obj.cells #[.string cl,.string n,.string d] 25)) (Obj.cells zR 25)) hb)
  have HP1:=aq (blk_below HP.out hb)
  have HM1:=aq (blk_below HM.out hb)
  have HZ1:=aq (blk_below HZ.out hb)
  clear hb
  obtain ⟨z0,z1,z2⟩:=cells3 HZ1.out
  have zf:=blk_frozen HZ1.out
  go_wp2_with fail
  exact bodyPost_ret (results_ct rfl _ _ (w.heap.size + 1 + 1) 25 zR (0,0) _ rfl (set3_own HZ1.out _ _ _) Try.underlying25 rfl (by kernel_rfl)) rfl ⟨rfl,set3_below HB1.out (by omega) _ _ _⟩
 | some s =>
  have HI:=aq (List.find?_some hf)
  obtain ⟨y,hy⟩ : ∃ y,getM l0 s n d = y:=⟨_,rfl⟩
  have HY:=aq hy
  rw [hf] at HA
  cases hm : mayS y with
  | true =>
   have hd : decS l0 xs n d = (s,n,d,true):=by unfold decS;rw [hf];simp only [hy,hm,if_true]
   have HMAY:=aq hm
   rw [hd]
   clear hf hd hy hm
   go_enter Try.func33,Try.ntmps33
   go_wp2_with fail
   refine HA.out.mono ?_
   rintro e w1 ⟨rfl,hb⟩
   have HB1:=aq (below_step (below_alloc (below_alloc (below_alloc (Below.refl w.heap.size w) (Obj.cells (pG A0 l0 c0 A1 l1 c1 a2 a3 a4) 27)) (Obj.cells #[.string cl,.string n,.string d] 25)) (Obj.cells zR 25)) hb)
   have HP1:=aq (blk_below HP.out hb)
   have HM1:=aq (blk_below HM.out hb)
   have HZ1:=aq (blk_below HZ.out hb)
   clear hb
   obtain ⟨p0,p1,p2,p3,p4⟩:=cells5 HP1.out
   obtain ⟨m0,m1,m2⟩:=cells3 HM1.out
   have mf:=blk_frozen HM1.out
   have HB2:=aq (below_set (g:=w.heap.size + 1) (j:=0) (v:=.string s) HB1.out (Nat.le_succ _))
   have HM2:=aq (blk_put (cs':=#[.string s,.string n,.string d]) HM1.out 0 (.string s) rfl)
   have HZ2:=aq (blk_far HZ1.out (p:=⟨w.heap.size + 1,0,none⟩) (by simp) (.string s))
   have HG:=aq (find_get (fun k => k < w.heap.size) A0 c0 l0 A1 c1 l1 a2 a3 a4 s n d (w1.setCell ⟨w.heap.size + 1,0,none⟩ (.string s)) (Kd.F_below HC0.out HB2.out) hc0 (Kd.C_below HC1.out HB2.out) hc1)
   rw [HY.out,HI.out] at HG
   go_wp2_with fail
   refine HG.out.mono ?_
   rintro e w2 ⟨A5,c5,rfl,hFM,hb2⟩
   have HB3:=aq (below_alloc (below_step HB2.out hb2) (Obj.cells (zH y A5 c5) 37))
   have HM3:=aq (blk_alloc (blk_below HM2.out hb2) (Obj.cells (zH y A5 c5) 37))
   have HZ3:=aq (blk_alloc (blk_below HZ2.out hb2) (Obj.cells (zH y A5 c5) 37))
   have HD:=aq (static_lit y _ (w2.alloc (Obj.cells (zH y A5 c5) 37)) (k37.K_below (below_alloc (Below.refl _ _) _) (Kd.FK_now hFM)))
   rw [HMAY.out] at HD
   clear hFM hb2 p0 p1 p2 p3 p4 m0 m1 m2 mf HG
   go_wp2_with fail
   refine HD.out.mono ?_
   rintro e w4 ⟨rfl,hb4⟩
   have HB4:=aq (below_step HB3.out hb4)
   have HZ4:=aq (blk_below HZ3.out hb4)
   obtain ⟨m0,m1,m2⟩:=cells3 (blk_below HM3.out hb4)
   obtain ⟨z0,z1,z2⟩:=cells3 HZ4.out
   have zf:=blk_frozen HZ4.out
   clear hb4 HD
   go_wp2_with fail
   exact bodyPost_ret (results_ct rfl _ _ (w.heap.size + 1 + 1) 25 #[.string s,.string n,.string d] (0,0) _ rfl (set3_own HZ4.out _ _ _) Try.underlying25 rfl (by kernel_rfl)) rfl ⟨rfl,set3_below HB4.out (by omega) _ _ _⟩
  | false =>
   have hd : decS l0 xs n d = (⟨#[]⟩,⟨#[]⟩,⟨#[]⟩,false):=by unfold decS;rw [hf];simp only [hy,hm,Bool.false_eq_true,if_false]
   have HMAY:=aq hm
   rw [hd]
   clear hf hd hy hm
   go_enter Try.func33,Try.ntmps33
   go_wp2_with fail
   refine HA.out.mono ?_
   rintro e w1 ⟨rfl,hb⟩
   have HB1:=aq (below_step (below_alloc (below_alloc (below_alloc (Below.refl w.heap.size w) (Obj.cells (pG A0 l0 c0 A1 l1 c1 a2 a3 a4) 27)) (Obj.cells #[.string cl,.string n,.string d] 25)) (Obj.cells zR 25)) hb)
   have HP1:=aq (blk_below HP.out hb)
   have HM1:=aq (blk_below HM.out hb)
   have HZ1:=aq (blk_below HZ.out hb)
   clear hb
   obtain ⟨p0,p1,p2,p3,p4⟩:=cells5 HP1.out
   obtain ⟨m0,m1,m2⟩:=cells3 HM1.out
   have mf:=blk_frozen HM1.out
   have HB2:=aq (below_set (g:=w.heap.size + 1) (j:=0) (v:=.string s) HB1.out (Nat.le_succ _))
   have HM2:=aq (blk_put (cs':=#[.string s,.string n,.string d]) HM1.out 0 (.string s) rfl)
   have HZ2:=aq (blk_far HZ1.out (p:=⟨w.heap.size + 1,0,none⟩) (by simp) (.string s))
   have HG:=aq (find_get (fun k => k < w.heap.size) A0 c0 l0 A1 c1 l1 a2 a3 a4 s n d (w1.setCell ⟨w.heap.size + 1,0,none⟩ (.string s)) (Kd.F_below HC0.out HB2.out) hc0 (Kd.C_below HC1.out HB2.out) hc1)
   rw [HY.out,HI.out] at HG
   go_wp2_with fail
   refine HG.out.mono ?_
   rintro e w2 ⟨A5,c5,rfl,hFM,hb2⟩
   have HB3:=aq (below_alloc (below_step HB2.out hb2) (Obj.cells (zH y A5 c5) 37))
   have HM3:=aq (blk_alloc (blk_below HM2.out hb2) (Obj.cells (zH y A5 c5) 37))
   have HZ3:=aq (blk_alloc (blk_below HZ2.out hb2) (Obj.cells (zH y A5 c5) 37))
   have HD:=aq (static_lit y _ (w2.alloc (Obj.cells (zH y A5 c5) 37)) (k37.K_below (below_alloc (Below.refl _ _) _) (Kd.FK_now hFM)))
   rw [HMAY.out] at HD
   clear hFM hb2 p0 p1 p2 p3 p4 m0 m1 m2 mf HG
   go_wp2_with fail
   refine HD.out.mono ?_
   rintro e w4 ⟨rfl,hb4⟩
   have HB4:=aq (below_step HB3.out hb4)
   have HZ4:=aq (blk_below HZ3.out hb4)
   obtain ⟨m0,m1,m2⟩:=cells3 (blk_below HM3.out hb4)
   obtain ⟨z0,z1,z2⟩:=cells3 HZ4.out
   have zf:=blk_frozen HZ4.out
   clear hb4 HD
   go_wp2_with fail
   exact bodyPost_ret (results_ct rfl _ _ (w.heap.size + 1 + 1) 25 zR (0,0) _ rfl (set3_own HZ4.out _ _ _) Try.underlying25 rfl (by kernel_rfl)) rfl ⟨rfl,set3_below HB4.out (by omega) _ _ _⟩
theorem pm_of1 {w w' : World} {A0_0 : Option Addr} {c0_0 : Nat} {l0_0 : List S33} {A0_1 : Option Addr} {c0_1 : Nat} {l0_1 : List ByteArray} {a0_2 : ByteArray} {a0_3 : ByteArray} {a0_4 : ByteArray} {a1 a2 a3 : ByteArray} (hp : w'.heap[w.heap.size]? = some (Obj.cells (pG A0_0 l0_0 c0_0 A0_1 l0_1 c0_1 a0_2 a0_3 a0_4) 27 (0, 0))) (hm : w'.heap[w.heap.size + 1]? = some (Obj.cells #[.string a1, .string a2, .string a3] 25 (0, 0))) : w'.cell? ⟨w.heap.size, 0, none⟩ = some (.slice A0_0 l0_0.length c0_0) ∧ w'.cell? ⟨w.heap.size, 1, none⟩ = some (.slice A0_1 l0_1.length c0_1) ∧ w'.cell? ⟨w.heap.size, 2, none⟩ = some (.string a0_2) ∧ w'.cell? ⟨w.heap.size, 3, none⟩ = some (.string a0_3) ∧ w'.cell? ⟨w.heap.size, 4, none⟩ = some (.string a0_4) ∧ w'.cell? ⟨w.heap.size + 1, 0, none⟩ = some (.string a1) ∧ w'.cell? ⟨w.heap.size + 1, 1, none⟩ = some (.string a2) ∧ w'.cell? ⟨w.heap.size + 1, 2, none⟩ = some (.string a3) := by
 obtain ⟨p0,p1,p2,p3,p4⟩:=cells5 hp
 obtain ⟨m0,m1,m2⟩:=cells3 hm
 exact ⟨p0,p1,p2,p3,p4,m0,m1,m2⟩
def find_Static.f (l0_0 : List S33) (l0_1 : List ByteArray) (a0_2 a0_3 a0_4 a1 a2 a3 : ByteArray) : Option (ByteArray × ByteArray × ByteArray × Bool) := (hier_Supers.f l0_0 l0_1 a0_2 a0_3 a0_4 a1).map fun xs => decS l0_0 xs a2 a3
theorem find_Static.calls (A0_0 : Option Addr) (c0_0 : Nat) (l0_0 : List S33) (A0_1 : Option Addr) (c0_1 : Nat) (l0_1 : List ByteArray) (a0_2 : ByteArray) (a0_3 : ByteArray) (a0_4 : ByteArray) (a1 : ByteArray) (a2 : ByteArray) (a3 : ByteArray) (r1 : ByteArray) (r2 : ByteArray) (r3 : ByteArray) (r4 : Bool) (w : World) (hr0_0 : Kd.C k33 w A0_0 l0_0.length l0_0) (hc0_0 : l0_0.length ≤ c0_0) (hr0_1 : Kd.C Kd.string w A0_1 l0_1.length l0_1) (hc0_1 : l0_1.length ≤ c0_1) (h : find_Static.f l0_0 l0_1 a0_2 a0_3 a0_4 a1 a2 a3 = some (r1, r2, r3, r4)) :
  Calls Try.prog 93 #[.agg (pG A0_0 l0_0 c0_0 A0_1 l0_1 c0_1 a0_2 a0_3 a0_4),.agg #[.string a1,.string a2,.string a3]] w fun e w' => e = .returned (.tuple #[.agg #[.string r1,.string r2,.string r3],.bool r4]) ∧ Below w.heap.size w w':=by
 unfold find_Static.f at h
 obtain ⟨xs,hx,hd⟩:=Option.map_eq_some_iff.1 h
 have HS:=aq (fun W (hW : Below w.heap.size w W) => hier_Supers.calls A0_0 c0_0 l0_0 A0_1 c0_1 l0_1 a0_2 a0_3 a0_4 a1 xs W (Kd.C_below hr0_0 hW) hc0_0 (Kd.C_below hr0_1 hW) hc0_1 hx)
 have HD:=aq (fun A c W (hW : Below w.heap.size w W) (hC : Kd.C Kd.string W A xs.length xs) (hc : xs.length ≤ c) => find_declaredS A0_0 c0_0 l0_0 A0_1 c0_1 l0_1 a0_2 a0_3 a0_4 A c xs a1 a2 a3 W (Kd.C_below hr0_0 hW) hc0_0 (Kd.C_below hr0_1 hW) hc0_1 hC hc)
 rw [hd] at HD
 have hp : (((w.alloc (Obj.cells (pG A0_0 l0_0 c0_0 A0_1 l0_1 c0_1 a0_2 a0_3 a0_4) 27)).alloc (Obj.cells #[.string a1,.string a2,.string a3] 25)).alloc (Obj.cells zR 25)).drew.heap[w.heap.size]? = some (Obj.cells (pG A0_0 l0_0 c0_0 A0_1 l0_1 c0_1 a0_2 a0_3 a0_4) 27 (0,0)):=blk_alloc (blk_alloc (World.alloc_heap_new w (Obj.cells (pG A0_0 l0_0 c0_0 A0_1 l0_1 c0_1 a0_2 a0_3 a0_4) 27)) _) _
 have hm : (((w.alloc (Obj.cells (pG A0_0 l0_0 c0_0 A0_1 l0_1 c0_1 a0_2 a0_3 a0_4) 27)).alloc (Obj.cells #[.string a1,.string a2,.string a3] 25)).alloc (Obj.cells zR 25)).drew.heap[w.heap.size + 1]? = some (Obj.cells #[.string a1,.string a2,.string a3] 25 (0,0)):=by
  have h:=World.alloc_heap_new (w.alloc (Obj.cells (pG A0_0 l0_0 c0_0 A0_1 l0_1 c0_1 a0_2 a0_3 a0_4) 27)) (Obj.cells #[.string a1,.string a2,.string a3] 25)
  rw [World.size_alloc] at h
  exact blk_alloc h _
 have hz : (((w.alloc (Obj.cells (pG A0_0 l0_0 c0_0 A0_1 l0_1 c0_1 a0_2 a0_3 a0_4) 27)).alloc (Obj.cells #[.string a1,.string a2,.string a3] 25)).alloc (Obj.cells zR 25)).drew.heap[w.heap.size + 1 + 1]? = some (Obj.cells zR 25 (0,0)):=by
  have h:=World.alloc_heap_new ((w.alloc (Obj.cells (pG A0_0 l0_0 c0_0 A0_1 l0_1 c0_1 a0_2 a0_3 a0_4) 27)).alloc (Obj.cells #[.string a1,.string a2,.string a3] 25)) (Obj.cells zR 25)
  rw [World.size_alloc,World.size_alloc] at h
  exact h
 have hbw : Below w.heap.size w (((w.alloc (Obj.cells (pG A0_0 l0_0 c0_0 A0_1 l0_1 c0_1 a0_2 a0_3 a0_4) 27)).alloc (Obj.cells #[.string a1,.string a2,.string a3] 25)).alloc (Obj.cells zR 25)).drew:=below_drew1 (below_alloc (below_alloc (below_alloc (Below.refl _ _) _) _) _)
 have hn1 : w.heap.size ≠ w.heap.size + 1 + 1:=by omega
 have hn2 : w.heap.size + 1 ≠ w.heap.size + 1 + 1:=by omega
 clear h hx hd hr0_0 hr0_1
 go_enter Try.func93,Try.ntmps93
 go_wp2_with fail
 go_region_held3 (fun w' => w'.cell? ⟨w.heap.size,0,none⟩ = some (.slice A0_0 l0_0.length c0_0) ∧ w'.cell? ⟨w.heap.size,1,none⟩ = some (.slice A0_1 l0_1.length c0_1) ∧ w'.cell? ⟨w.heap.size,2,none⟩ = some (.string a0_2) ∧ w'.cell? ⟨w.heap.size,3,none⟩ = some (.string a0_3) ∧ w'.cell? ⟨w.heap.size,4,none⟩ = some (.string a0_4) ∧ w'.cell? ⟨w.heap.size + 1,0,none⟩ = some (.string a1) ∧ w'.cell? ⟨w.heap.size + 1,1,none⟩ = some (.string a2) ∧ w'.cell? ⟨w.heap.size + 1,2,none⟩ = some (.string a3)) (first|with_reducible exact pm_of1 hp hm|with_reducible exact pm_of1 (set3_far hp hn1 _ _ _) (set3_far hm hn2 _ _ _)) (first
  | (go_at_call 8;refine (HS.out _ hbw).mono ?_;rintro e w2 ⟨v,rfl,hR,hb⟩;obtain ⟨A,c,rfl,hcx,hCx⟩:=Kd.R_reads hR;replace hp:=blk_below hp hb;replace hz:=blk_below hz hb;replace hm:=blk_below hm hb;replace hbw:=below_step hbw hb;clear hb hR)
  | (go_at_call 33;refine (HD.out _ _ _ hbw hCx hcx).mono ?_;rintro e w3 ⟨rfl,hb⟩;replace hp:=blk_below hp hb;replace hz:=blk_below hz hb;replace hm:=blk_below hm hb;replace hbw:=below_step hbw hb;clear hb hCx;obtain ⟨z0,z1,z2⟩:=cells3 hz;have zf:=blk_frozen hz))
 all_goals go_wp2_with fail
 all_goals exact bodyPost_ret (results_ct rfl _ _ (w.heap.size + 1 + 1) 25 #[.string r1,.string r2,.string r3] (0,0) _ rfl (set3_own hz _ _ _) Try.underlying25 rfl (by kernel_rfl)) rfl ⟨rfl,set3_below hbw (by omega) _ _ _⟩
end Go.Proofs.Ytfplcohjnlbfjaa.Hand
end

section
namespace Go.Proofs.Ytfplcohjnlbfjaa.Hand
open Go.RowKit Go.Proofs.YtfplcohjnlbfjaaW
open PrintWords PrintLast PrintMore
theorem rdS_get (xs : List ByteArray) (i : Nat) (hi : i < xs.length) : rdOf ByteArray.empty xs (i : Int) = xs[i] := by
 unfold rdOf
 rw [Int.toNat_natCast,List.getD_eq_getElem?_getD,List.getElem?_eq_getElem hi]
 rfl
theorem results_cct {P : Program} {fn : Func} {p p' u : Tmp} {ty ty' : TypeId} (h : fn.results = #[.cell p ty, .cell p' ty', .tmp u]) (tmps : Array Value) (w : World) (g g' : Nat) (t t' : TypeId) (cs cs' : Array Value) (fr fr' : Nat × Nat) (d d' : TypeDesc)
  (hp : tmps.getD p undef = .pointer (some ⟨g,0,none⟩)) (hp2 : tmps.getD p' undef = .pointer (some ⟨g',0,none⟩)) (hg : w.heap[g]? = some (.cells cs t fr)) (hg' : w.heap[g']? = some (.cells cs' t' fr'))
  (hu : P.underlying ty = some d) (hu' : P.underlying ty' = some d') (hd : (match d with|.struct _|.array _ _ => true|_ => false) = true) (hd' : (match d' with|.struct _|.array _ _ => true|_ => false) = true) (hi : (P.info? ty).map (·.size) = some cs.size) (hi' : (P.info? ty').map (·.size) = some cs'.size) :
  (results fn tmps).run P w = .ok (.tuple #[.agg cs,.agg cs',tmps.getD u undef]) w:=by
 have hp1 : tmps[p]?.getD undef = .pointer (some ⟨g,0,none⟩):=by simpa using hp
 have hp3 : tmps[p']?.getD undef = .pointer (some ⟨g',0,none⟩):=by simpa using hp2
 simp [results,h,hp1,hp3,asAddr,run_loadVar_row w g t ty cs fr d hg hu hd hi,run_loadVar_row w g' t' ty' cs' fr' d' hg' hu' hd' hi']
theorem set3_belowB {n : Nat} {w0 w : World} {R : Nat} (h : Below n w0 w) (hR : n ≤ R) (v0 v1 v2 : Value) : Below n w0 (((w.setCell ⟨R, 0, none⟩ v0).setCell ⟨R, 1, none⟩ v1).setCell ⟨R, 2, none⟩ v2) := ((h.setCell hR _).setCell hR _).setCell hR _
theorem set6_belowB {n : Nat} {w0 w : World} {R : Nat} (h : Below n w0 w) (hR : n ≤ R) (v0 v1 v2 v3 v4 v5 : Value) : Below n w0 ((((((w.setCell ⟨R, 0, none⟩ v0).setCell ⟨R, 1, none⟩ v1).setCell ⟨R, 2, none⟩ v2).setCell ⟨R, 3, none⟩ v3).setCell ⟨R, 4, none⟩ v4).setCell ⟨R, 5, none⟩ v5) := (((((h.setCell hR _).setCell hR _).setCell hR _).setCell hR _).setCell hR _).setCell hR _
def firstS (l0 : List S33) (xs : List ByteArray) (n d : ByteArray) : ByteArray × ByteArray × ByteArray × S37 × Bool :=
 match xs.find? (fun s => hasM l0 s n d) with
 | none => (⟨#[]⟩,⟨#[]⟩,⟨#[]⟩,z37,false)
 | some s => (s,n,d,getM l0 s n d,true)
theorem firstS_none {l0 : List S33} {xs : List ByteArray} {n d : ByteArray} (h : ∀ j (hj : j < xs.length), hasM l0 xs[j] n d = false) : firstS l0 xs n d = (⟨#[]⟩, ⟨#[]⟩, ⟨#[]⟩, z37, false) := by
 unfold firstS
 rw [List.find?_eq_none.2 (fun s hs => by obtain ⟨j,hj,rfl⟩:=List.getElem_of_mem hs;rw [h j hj];decide)]
theorem firstS_at {l0 : List S33} {xs : List ByteArray} {n d : ByteArray} {i : Nat} (hi : i < xs.length) (hno : ∀ j (hj : j < xs.length), j < i → hasM l0 xs[j] n d = false) (hh : hasM l0 xs[i] n d = true) : firstS l0 xs n d = (xs[i], n, d, getM l0 xs[i] n d, true) := by
 have hf : xs.find? (fun s => hasM l0 s n d) = some xs[i]:=by
  refine List.find?_eq_some_iff_getElem.2 ⟨hh,i,hi,rfl,fun j hj => ?_⟩
  rw [hno j (by omega) hj]
  rfl
 unfold firstS
 rw [hf]
theorem ref_first (A0 : Option Addr) (c0 : Nat) (l0 : List S33) (A1 : Option Addr) (c1 : Nat) (l1 : List ByteArray) (a2 a3 a4 b0 n d : ByteArray) (AS : Option Addr) (cS : Nat) (xs : List ByteArray) (w : World) (hr0 : Kd.C k33 w A0 l0.length l0) (hc0 : l0.length ≤ c0) (hr1 : Kd.C Kd.string w A1 l1.length l1) (hc1 : l1.length ≤ c1) (hS : Kd.C Kd.string w AS xs.length xs) (hcS : xs.length ≤ cS) :
  Calls Try.prog 81 #[.agg (pG A0 l0 c0 A1 l1 c1 a2 a3 a4),.slice AS xs.length cS,.agg #[.string b0,.string n,.string d]] w fun e w' => ∃ AM nM cM,e = .returned (.tuple #[.agg #[.string (firstS l0 xs n d).1,.string (firstS l0 xs n d).2.1,.string (firstS l0 xs n d).2.2.1],.agg #[.string (firstS l0 xs n d).2.2.2.1.f0,.string (firstS l0 xs n d).2.2.2.1.f1,.bool (firstS l0 xs n d).2.2.2.1.f2,.bool (firstS l0 xs n d).2.2.2.1.f3,.int .i64 (firstS l0 xs n d).2.2.2.1.f4,.slice AM nM cM],.bool (firstS l0 xs n d).2.2.2.2]) ∧ Below w.heap.size w w':=by
 have HR0:=aq (F_of_C heapC hr0)
 have HR1:=aq hr1
 have HXS:=aq hS
 have HMX:=aq hS.2.1
 have h0:=blk_alloc (blk_alloc (blk_alloc (World.alloc_heap_new w (Obj.cells (pG A0 l0 c0 A1 l1 c1 a2 a3 a4) 27)) (Obj.cells #[.string b0,.string n,.string d] 25)) (Obj.cells zR 25)) (Obj.cells zM 37)
 have h1:=blk_alloc (blk_alloc (World.alloc_heap_new (w.alloc (Obj.cells (pG A0 l0 c0 A1 l1 c1 a2 a3 a4) 27)) (Obj.cells #[.string b0,.string n,.string d] 25)) (Obj.cells zR 25)) (Obj.cells zM 37)
 have h2:=blk_alloc (World.alloc_heap_new ((w.alloc (Obj.cells (pG A0 l0 c0 A1 l1 c1 a2 a3 a4) 27)).alloc (Obj.cells #[.string b0,.string n,.string d] 25)) (Obj.cells zR 25)) (Obj.cells zM 37)
 have h3:=World.alloc_heap_new (((w.alloc (Obj.cells (pG A0 l0 c0 A1 l1 c1 a2 a3 a4) 27)).alloc (Obj.cells #[.string b0,.string n,.string d] 25)).alloc (Obj.cells zR 25)) (Obj.cells zM 37)
 rw [World.size_alloc] at h1
 rw [World.size_alloc,World.size_alloc] at h2
 rw [World.size_alloc,World.size_alloc,World.size_alloc] at h3
 have hab:=below_alloc (below_alloc (below_alloc (below_alloc (Below.refl w.heap.size w) (Obj.cells (pG A0 l0 c0 A1 l1 c1 a2 a3 a4) 27)) (Obj.cells #[.string b0,.string n,.string d] 25)) (Obj.cells zR 25)) (Obj.cells zM 37)
 obtain ⟨wd,hwd⟩ : ∃ wd,wd = ((((w.alloc (Obj.cells (pG A0 l0 c0 A1 l1 c1 a2 a3 a4) 27)).alloc (Obj.cells #[.string b0,.string n,.string d] 25)).alloc (Obj.cells zR 25)).alloc (Obj.cells zM 37)):=⟨_,rfl⟩
 have hsz : wd.heap.size = w.heap.size + 4:=by rw [hwd,World.size_alloc,World.size_alloc,World.size_alloc,World.size_alloc]
 rw [← hwd] at h0 h1 h2 h3 hab
 have HP0:=aq h0
 have HM0:=aq h1
 have HZ0:=aq h2
 have HY0:=aq h3
 have HB0:=aq hab
 have HSZ:=aq hsz
 have HWD:=aq hwd
 clear hr0 hr1 hS h0 h1 h2 h3 hab hwd hsz
 go_enter Try.func81,Try.ntmps81
 go_wp2_with fail
 rw [← HWD.out]
 clear HWD
 go_loopg [9] xs.length (fun kq v9 wr => ∃ (i : Nat) (cl : ByteArray),v9 = .int .i64 (i : Int) ∧ i + kq = xs.length ∧ Aside0 (∀ j (hj : j < xs.length),j < i → hasM l0 xs[j] n d = false) ∧ Aside0 (wr.heap[w.heap.size]? = some (Obj.cells (pG A0 l0 c0 A1 l1 c1 a2 a3 a4) 27 (0,0))) ∧ Aside0 (wr.heap[w.heap.size + 1]? = some (Obj.cells #[.string cl,.string n,.string d] 25 (0,0))) ∧ Aside0 (wr.heap[w.heap.size + 1 + 1]? = some (Obj.cells zR 25 (0,0))) ∧ Aside0 (wr.heap[w.heap.size + 1 + 1 + 1]? = some (Obj.cells zM 37 (0,0))) ∧ Aside0 (Below w.heap.size w wr))
 case atStart => exact ⟨0,b0,rfl,by omega,⟨fun j _ h => absurd h (Nat.not_lt_zero j)⟩,HP0,HM0,HZ0,HY0,HB0⟩
 case round =>
  obtain ⟨i,cl,rfl,hi,HNO,HP,HM,HZ,HY,HB⟩:=hrel
  by_cases hlt : i < xs.length
  ·
   obtain ⟨ad,rfl,hx⟩:=Kd.at_string (Kd.C_below HXS.out HB.out) (i : Int) (by omega) (by omega)
   rw [rdS_get xs i hlt,Int.toNat_natCast] at hx
   have hd : decide ((i : Int) < (xs.length : Int)) = true:=decide_eq_true (by omega)
   have hi0 : (0 : Int) ≤ (i : Int):=by omega
   have hi1 : (i : Int) < (xs.length : Int):=by omega
   have HAT:=aq (fun (hh : hasM l0 xs[i] n d = true) => firstS_at hlt HNO.out hh)
   have HNX : Aside0 (hasM l0 xs[i] n d = false → ∀ j (hj : j < xs.length),j < i + 1 → hasM l0 xs[j] n d = false):=⟨fun hh j hj hji => by
    rcases Nat.lt_or_ge j i with h|h
    ·
     exact HNO.out j hj h
    ·
     obtain rfl : j = i:=by omega
     exact hh⟩
   obtain ⟨s,hs⟩ : ∃ s,xs[i] = s:=⟨_,rfl⟩
   rw [hs] at hx HAT HNX
   clear hs
   obtain ⟨m0,m1,m2⟩:=cells3 HM.out
   obtain ⟨p0,p1,p2,p3,p4⟩:=cells5 HP.out
   have mf:=blk_frozen HM.out
   have HM1:=aq (blk_put (cs':=#[.string s,.string n,.string d]) HM.out 0 (.string s) rfl)
   have HP1:=aq (blk_far HP.out (p:=⟨w.heap.size + 1,0,none⟩) (show w.heap.size ≠ w.heap.size + 1 by omega) (.string s))
   have HZ1:=aq (blk_far HZ.out (p:=⟨w.heap.size + 1,0,none⟩) (show w.heap.size + 1 + 1 ≠ w.heap.size + 1 by omega) (.string s))
   have HY1:=aq (blk_far HY.out (p:=⟨w.heap.size + 1,0,none⟩) (show w.heap.size + 1 + 1 + 1 ≠ w.heap.size + 1 by omega) (.string s))
   have HB1:=aq (below_set (g:=w.heap.size + 1) (j:=0) (v:=.string s) HB.out (Nat.le_succ _))
   have HG:=aq (ref_get (fun k => k < w.heap.size) A0 c0 l0 A1 c1 l1 a2 a3 a4 s n d (wr.setCell ⟨w.heap.size + 1,0,none⟩ (.string s)) (Kd.F_below HR0.out HB1.out) hc0 (Kd.C_below HR1.out HB1.out) hc1)
   obtain ⟨ok,hok⟩ : ∃ ok,hasM l0 s n d = ok:=⟨_,rfl⟩
   obtain ⟨y,hy⟩ : ∃ y,getM l0 s n d = y:=⟨_,rfl⟩
   rw [hok,hy] at HG
   rw [hok] at HNX
   rw [hok,hy] at HAT
   clear hok hy
   go_wp2_with fail
   refine HG.out.mono ?_
   rintro e w1 ⟨A5,c5,rfl,_,hb⟩
   have HGB:=aq (World.alloc_heap_new w1 (Obj.cells (zH y A5 c5) 37))
   have hba:=below_alloc hb (Obj.cells (zH y A5 c5) 37)
   have HM2:=aq (blk_below HM1.out hba)
   have HP2:=aq (blk_below HP1.out hba)
   have HZ2:=aq (blk_below HZ1.out hba)
   have HY2:=aq (blk_below HY1.out hba)
   have HB2:=aq (below_step HB1.out hba)
   have HGN:=aq (show w1.heap.size ≠ w.heap.size + 1 + 1 ∧ w1.heap.size ≠ w.heap.size + 1 + 1 + 1 from by have h1:=blk_lt (blk_below HY1.out hb);have h2:=blk_lt (blk_below HZ1.out hb);omega)
   clear hb hba m0 m1 m2 p0 p1 p2 p3 p4 mf hx HG
   cases ok
   ·
    go_wp2_with fail
    go_roundg (gk - 1)
    case measure => omega
    case rel => exact ⟨i + 1,s,by first|rfl|rw [gr_wrap hlt HMX.out],by omega,⟨HNX.out (by first|rfl|trivial)⟩,HP2,HM2,HZ2,HY2,HB2⟩
   ·
    have HFE:=aq (HAT.out (by first|rfl|trivial))
    clear HAT HNX
    have hne12 : w.heap.size + 1 ≠ w.heap.size + 1 + 1:=by omega
    have hne32 : w.heap.size + 1 + 1 + 1 ≠ w.heap.size + 1 + 1:=by omega
    have hne23 : w.heap.size + 1 + 1 ≠ w.heap.size + 1 + 1 + 1:=by omega
    go_wp2_with fail
    obtain ⟨wq,hwq⟩ : ∃ wq,wq = w1.alloc (Obj.cells (zH y A5 c5) 37):=⟨_,rfl⟩
    obtain ⟨gb,hgb⟩ : ∃ gb,gb = w1.heap.size:=⟨_,rfl⟩
    rw [← hwq] at HM2 HP2 HZ2 HY2 HB2 HGB
    rw [← hgb] at HGB HGN
    have HWQ:=aq hwq
    have HGB2:=aq hgb
    clear hwq hgb
    try rw [← HWQ.out]
    try rw [← HGB2.out]
    have HR1 : Aside0 (wq.drew.heap[w.heap.size + 1 + 1]? = some (Obj.cells zR 25 (0,0))):=⟨HZ2.out⟩
    have HQ1 : Aside0 (wq.drew.heap[w.heap.size + 1 + 1 + 1]? = some (Obj.cells zM 37 (0,0))):=⟨HY2.out⟩
    have HM1 : Aside0 (wq.drew.heap[w.heap.size + 1]? = some (Obj.cells #[.string s,.string n,.string d] 25 (0,0))):=⟨HM2.out⟩
    have HG1 : Aside0 (wq.drew.heap[gb]? = some (Obj.cells (zH y A5 c5) 37 (0,0))):=⟨HGB.out⟩
    have HB1 : Aside0 (Below w.heap.size w wq.drew):=⟨below_drew1 HB2.out⟩
    obtain ⟨r0,r1,r2⟩:=cells3 HR1.out
    have rf:=blk_frozen HR1.out
    obtain ⟨m0,m1,m2⟩:=cells3 HM1.out
    obtain ⟨g0,g1,g2,g3,g4,g5⟩:=cells6 HG1.out
    refine start_ (n:=5) (S:=fun w' => w'.cell? ⟨w.heap.size + 1,0,none⟩ = some (.string s) ∧ w'.cell? ⟨w.heap.size + 1,1,none⟩ = some (.string n) ∧ w'.cell? ⟨w.heap.size + 1,2,none⟩ = some (.string d) ∧ w'.cell? ⟨gb,0,none⟩ = some (.string y.f0) ∧ w'.cell? ⟨gb,1,none⟩ = some (.string y.f1) ∧ w'.cell? ⟨gb,2,none⟩ = some (.bool y.f2) ∧ w'.cell? ⟨gb,3,none⟩ = some (.bool y.f3) ∧ w'.cell? ⟨gb,4,none⟩ = some (.int .i64 y.f4) ∧ w'.cell? ⟨gb,5,none⟩ = some (.slice A5 y.f5.length c5)) (ds:=[3]) (Array.replicate 5 false) (by kernel_rfl) rfl rfl ⟨m0,m1,m2,g0,g1,g2,g3,g4,g5⟩ (fun hHeld => ?_)
    generalize wq.drew = X at HR1 HQ1 HB1 HM1 HG1 r0 r1 r2 rf m0 m1 m2 g0 g1 g2 g3 g4 g5 hHeld ⊢
    refine sT (i:=0) (N:=some 30) hHeld ?_
    refine sT (i:=1) (N:=some 31) hHeld ?_
    refine sO (i:=2) (N:=none) fun K hK => ?_
    refine skip_ (w1:=?_) (by rfl) rfl ?_ ?_
    rotate_left
    ·
     go_simp
     rfl
    have HR2:=aq (set3_own HR1.out (.string s) (.string n) (.string d))
    have HQ2:=aq (set3_far HQ1.out hne32 (.string s) (.string n) (.string d))
    have HB2:=aq (set3_belowB HB1.out (show w.heap.size ≤ w.heap.size + 1 + 1 by omega) (.string s) (.string n) (.string d))
    have HM2:=aq (set3_far HM1.out hne12 (.string s) (.string n) (.string d))
    have HG2:=aq (set3_far HG1.out HGN.out.1 (.string s) (.string n) (.string d))
    generalize (((X.setCell ⟨w.heap.size + 1 + 1,0,none⟩ (.string s)).setCell ⟨w.heap.size + 1 + 1,1,none⟩ (.string n)).setCell ⟨w.heap.size + 1 + 1,2,none⟩ (.string d)) = X2 at HR2 HQ2 HB2 HM2 HG2 ⊢
    obtain ⟨q0,q1,q2,q3,q4,q5⟩:=cells6 HQ2.out
    have qf:=blk_frozen HQ2.out
    obtain ⟨u0,u1,u2⟩:=cells3 HM2.out
    obtain ⟨g0,g1,g2,g3,g4,g5⟩:=cells6 HG2.out
    clear r0 r1 r2 rf
    refine hK.out _ _ ⟨u0,u1,u2,g0,g1,g2,g3,g4,g5⟩ (fun hHeld => ?_)
    clear hK K
    refine sX (i:=3) (N:=none) fun K hK => ?_
    refine skip_ (w1:=?_) (by rfl) rfl ?_ ?_
    rotate_left
    ·
     go_simp
     rfl
    have HR3:=aq ((set6_far hne23 (.string y.f0) (.string y.f1) (.bool y.f2) (.bool y.f3) (.int .i64 y.f4) (.slice A5 y.f5.length c5)).trans HR2.out)
    have HQ3:=aq (set6_own HQ2.out (.string y.f0) (.string y.f1) (.bool y.f2) (.bool y.f3) (.int .i64 y.f4) (.slice A5 y.f5.length c5))
    have HB3:=aq (set6_belowB HB2.out (show w.heap.size ≤ w.heap.size + 1 + 1 + 1 by omega) (.string y.f0) (.string y.f1) (.bool y.f2) (.bool y.f3) (.int .i64 y.f4) (.slice A5 y.f5.length c5))
    generalize ((((((X2.setCell ⟨w.heap.size + 1 + 1 + 1,0,none⟩ (.string y.f0)).setCell ⟨w.heap.size + 1 + 1 + 1,1,none⟩ (.string y.f1)).setCell ⟨w.heap.size + 1 + 1 + 1,2,none⟩ (.bool y.f2)).setCell ⟨w.heap.size + 1 + 1 + 1,3,none⟩ (.bool y.f3)).setCell ⟨w.heap.size + 1 + 1 + 1,4,none⟩ (.int .i64 y.f4)).setCell ⟨w.heap.size + 1 + 1 + 1,5,none⟩ (.slice A5 y.f5.length c5)) = X3 at HR3 HQ3 HB3 ⊢
    clear q0 q1 q2 q3 q4 q5 qf
    refine hK.out _ _ ?_
    clear hK K
    refine sP (i:=4) (N:=some 8) ?_
    refine done_ (by kernel_rfl) ?_
    go_wp2_with fail
    exact bodyPost_ret (results_cct rfl _ _ (w.heap.size + 1 + 1) (w.heap.size + 1 + 1 + 1) 25 37 #[.string s,.string n,.string d] (zH y A5 c5) (0,0) (0,0) _ _ rfl rfl (HR3.out) (HQ3.out) Try.underlying25 Try.underlying37 rfl rfl (by kernel_rfl) (by kernel_rfl)) rfl ⟨_,_,_,by rw [HFE.out];rfl,HB3.out⟩
  ·
   have hd : decide ((i : Int) < (xs.length : Int)) = false:=decide_eq_false (by omega)
   have HFE:=aq (firstS_none (l0:=l0) (n:=n) (d:=d) (xs:=xs) fun j hj => HNO.out j hj (by omega))
   obtain ⟨r0,r1,r2⟩:=cells3 HZ.out
   obtain ⟨q0,q1,q2,q3,q4,q5⟩:=cells6 HY.out
   have rf:=blk_frozen HZ.out
   have qf:=blk_frozen HY.out
   have hne23 : w.heap.size + 1 + 1 ≠ w.heap.size + 1 + 1 + 1:=by omega
   have hne32 : w.heap.size + 1 + 1 + 1 ≠ w.heap.size + 1 + 1:=by omega
   go_wp2_with fail
   exact bodyPost_ret (results_cct rfl _ _ (w.heap.size + 1 + 1) (w.heap.size + 1 + 1 + 1) 25 37 zR zM (0,0) (0,0) _ _ rfl rfl ((set6_far hne23 _ _ _ _ _ _).trans (set3_own HZ.out _ _ _)) (set6_own (set3_far HY.out hne32 _ _ _) _ _ _ _ _ _) Try.underlying25 Try.underlying37 rfl rfl (by kernel_rfl) (by kernel_rfl)) rfl ⟨_,_,_,by rw [HFE.out];rfl,set6_belowB (set3_belowB HB.out (by omega) _ _ _) (by omega) _ _ _ _ _ _⟩
theorem set3_belowA {n : Nat} {w0 w : World} {R : Nat} (h : Below n w0 w) (hR : n ≤ R) (v0 v1 v2 : Value) : Below n w0 (((w.setCell ⟨R, 0, none⟩ v0).setCell ⟨R, 1, none⟩ v1).setCell ⟨R, 2, none⟩ v2) := ((h.setCell hR _).setCell hR _).setCell hR _
theorem set6_belowA {n : Nat} {w0 w : World} {R : Nat} (h : Below n w0 w) (hR : n ≤ R) (v0 v1 v2 v3 v4 v5 : Value) : Below n w0 ((((((w.setCell ⟨R, 0, none⟩ v0).setCell ⟨R, 1, none⟩ v1).setCell ⟨R, 2, none⟩ v2).setCell ⟨R, 3, none⟩ v3).setCell ⟨R, 4, none⟩ v4).setCell ⟨R, 5, none⟩ v5) := (((((h.setCell hR _).setCell hR _).setCell hR _).setCell hR _).setCell hR _).setCell hR _
theorem blk_apart {w : World} {a b : Nat} {s t : TypeId} {cs ds : Array Value} (h : w.heap[a]? = some (.cells cs s (0, 0))) (k : w.heap[b]? = some (.cells ds t (0, 0))) (hst : s ≠ t) : a ≠ b := fun e => by
 rw [e,k] at h
 injection h with h
 injection h with _ h _
 exact hst h.symm
theorem ref_static (A0 : Option Addr) (c0 : Nat) (l0 : List S33) (A1 : Option Addr) (c1 : Nat) (l1 : List ByteArray) (a2 a3 a4 b0 b1 b2 : ByteArray) (w : World) (hr0 : Kd.C k33 w A0 l0.length l0) (hc0 : l0.length ≤ c0) (hr1 : Kd.C Kd.string w A1 l1.length l1) (hc1 : l1.length ≤ c1) (xs : List ByteArray) (hx : sr11_Supers.f l0 l1 a2 a3 a4 b0 = some xs) (hxl : xs.length ≤ 9223372036854775807) :
  Calls Try.prog 51 #[.agg (pG A0 l0 c0 A1 l1 c1 a2 a3 a4),.agg #[.string b0,.string b1,.string b2]] w fun e w' => e = .returned (.tuple #[.agg #[.string (decS l0 xs b1 b2).1,.string (decS l0 xs b1 b2).2.1,.string (decS l0 xs b1 b2).2.2.1],.bool (decS l0 xs b1 b2).2.2.2]) ∧ Below w.heap.size w w':=by
 have HS:=aq (fun W (hW : Below w.heap.size w W) => sr11_Supers.calls A0 c0 l0 A1 c1 l1 a2 a3 a4 b0 xs W (Kd.C_below hr0 hW) hc0 (Kd.C_below hr1 hW) hc1 hx)
 obtain ⟨⟨x0,x1,x2,y,ok⟩,hfs⟩ : ∃ q,firstS l0 xs b1 b2 = q:=⟨_,rfl⟩
 have hd : decS l0 xs b1 b2 = if ok = true then (if y.f2 = true then (x0,x1,x2,true) else (⟨#[]⟩,⟨#[]⟩,⟨#[]⟩,false)) else (⟨#[]⟩,⟨#[]⟩,⟨#[]⟩,false):=by
  unfold decS
  unfold firstS at hfs
  cases hf : xs.find? (fun s => hasM l0 s b1 b2) with
  | none =>
   rw [hf] at hfs
   simp only [Prod.mk.injEq] at hfs
   obtain ⟨_,_,_,_,rfl⟩:=hfs
   rfl
  | some s =>
   rw [hf] at hfs
   simp only [Prod.mk.injEq] at hfs
   obtain ⟨rfl,rfl,rfl,rfl,rfl⟩:=hfs
   rfl
 have HF:=aq (fun A c W (hW : Below w.heap.size w W) (hC : Kd.C Kd.string W A xs.length xs) (hc : xs.length ≤ c) => ref_first A0 c0 l0 A1 c1 l1 a2 a3 a4 b0 b1 b2 A c xs W (Kd.C_below hr0 hW) hc0 (Kd.C_below hr1 hW) hc1 hC hc)
 rw [hfs] at HF
 clear hfs
 rw [hd]
 obtain ⟨RR,hRR⟩ : ∃ RR,(if ok = true then (if y.f2 = true then (x0,x1,x2,true) else (⟨#[]⟩,⟨#[]⟩,⟨#[]⟩,false)) else ((⟨#[]⟩ : ByteArray),(⟨#[]⟩ : ByteArray),(⟨#[]⟩ : ByteArray),false)) = RR:=⟨_,rfl⟩
 rw [hRR]
 have HRR:=aq hRR
 clear hRR
 have h0:=blk_alloc (blk_alloc (World.alloc_heap_new w (Obj.cells (pG A0 l0 c0 A1 l1 c1 a2 a3 a4) 27)) (Obj.cells #[.string b0,.string b1,.string b2] 25)) (Obj.cells zR 25)
 have h1:=blk_alloc (World.alloc_heap_new (w.alloc (Obj.cells (pG A0 l0 c0 A1 l1 c1 a2 a3 a4) 27)) (Obj.cells #[.string b0,.string b1,.string b2] 25)) (Obj.cells zR 25)
 have h2:=World.alloc_heap_new ((w.alloc (Obj.cells (pG A0 l0 c0 A1 l1 c1 a2 a3 a4) 27)).alloc (Obj.cells #[.string b0,.string b1,.string b2] 25)) (Obj.cells zR 25)
 rw [World.size_alloc] at h1
 rw [World.size_alloc,World.size_alloc] at h2
 have hab:=below_alloc (below_alloc (below_alloc (Below.refl w.heap.size w) (Obj.cells (pG A0 l0 c0 A1 l1 c1 a2 a3 a4) 27)) (Obj.cells #[.string b0,.string b1,.string b2] 25)) (Obj.cells zR 25)
 obtain ⟨wd,hwd⟩ : ∃ wd,wd = (((w.alloc (Obj.cells (pG A0 l0 c0 A1 l1 c1 a2 a3 a4) 27)).alloc (Obj.cells #[.string b0,.string b1,.string b2] 25)).alloc (Obj.cells zR 25)):=⟨_,rfl⟩
 rw [← hwd] at h0 h1 h2 hab
 have HB0 : Aside0 (Below w.heap.size w wd.drew):=⟨below_drew1 hab⟩
 have HS0 : Aside0 (w.heap.size ≤ wd.drew.heap.size):=⟨HB0.out.size⟩
 have HBc : Aside0 (Below wd.drew.heap.size wd.drew wd.drew):=⟨Below.refl _ _⟩
 have HZ0 : Aside0 (wd.drew.heap[w.heap.size + 1 + 1]? = some (Obj.cells zR 25 (0,0))):=⟨h2⟩
 have z0 : wd.drew.cell? ⟨w.heap.size,0,none⟩ = some (.slice A0 l0.length c0):=blk_cell h0 0
 have z1 : wd.drew.cell? ⟨w.heap.size,1,none⟩ = some (.slice A1 l1.length c1):=blk_cell h0 1
 have z2 : wd.drew.cell? ⟨w.heap.size,2,none⟩ = some (.string a2):=blk_cell h0 2
 have z3 : wd.drew.cell? ⟨w.heap.size,3,none⟩ = some (.string a3):=blk_cell h0 3
 have z4 : wd.drew.cell? ⟨w.heap.size,4,none⟩ = some (.string a4):=blk_cell h0 4
 have z5 : wd.drew.cell? ⟨w.heap.size + 1,0,none⟩ = some (.string b0):=blk_cell h1 0
 have z6 : wd.drew.cell? ⟨w.heap.size + 1,1,none⟩ = some (.string b1):=blk_cell h1 1
 have z7 : wd.drew.cell? ⟨w.heap.size + 1,2,none⟩ = some (.string b2):=blk_cell h1 2
 have HWD:=aq hwd
 clear hr0 hr1 hx hd h0 h1 h2 hab hwd
 go_enter Try.func51,Try.ntmps51
 go_wp2_with fail
 rw [← HWD.out]
 clear HWD
 refine start_ (n:=16) (S:=fun w' => w'.cell? ⟨w.heap.size,0,none⟩ = some (.slice A0 l0.length c0) ∧ w'.cell? ⟨w.heap.size,1,none⟩ = some (.slice A1 l1.length c1) ∧ w'.cell? ⟨w.heap.size,2,none⟩ = some (.string a2) ∧ w'.cell? ⟨w.heap.size,3,none⟩ = some (.string a3) ∧ w'.cell? ⟨w.heap.size,4,none⟩ = some (.string a4) ∧ w'.cell? ⟨w.heap.size + 1,0,none⟩ = some (.string b0) ∧ w'.cell? ⟨w.heap.size + 1,1,none⟩ = some (.string b1) ∧ w'.cell? ⟨w.heap.size + 1,2,none⟩ = some (.string b2)) (ds:=[14]) (Array.replicate 16 false) (by kernel_rfl) rfl rfl ⟨z0,z1,z2,z3,z4,z5,z6,z7⟩ (fun hHeld => ?_)
 generalize wd.drew = X at HB0 HS0 HZ0 HBc z0 z1 z2 z3 z4 z5 z6 z7 hHeld ⊢
 refine sP (i:=2) (N:=some 12) ?_
 refine sT (i:=0) (N:=some 10) hHeld ?_
 refine sT (i:=1) (N:=some 11) hHeld ?_
 refine sT (i:=3) (N:=some 13) hHeld ?_
 refine sT (i:=5) (N:=some 15) hHeld ?_
 refine join_ (σ:=Nat × Nat × Value × Option Addr × Nat × Nat) 3 #[true,true,true,true,true,true,true,true,true,true,true,true,true,false,false,false] (fun s => [(14,s.2.2.1),(16,.tuple #[.agg #[.string x0,.string x1,.string x2],.agg #[.string y.f0,.string y.f1,.bool y.f2,.bool y.f3,.int .i64 y.f4,.slice s.2.2.2.1 s.2.2.2.2.1 s.2.2.2.2.2],.bool ok]),(9,.tuple #[.agg #[.string x0,.string x1,.string x2],.agg #[.string y.f0,.string y.f1,.bool y.f2,.bool y.f3,.int .i64 y.f4,.slice s.2.2.2.1 s.2.2.2.2.1 s.2.2.2.2.2],.bool ok]),(17,.agg #[.string x0,.string x1,.string x2]),(18,.agg #[.string y.f0,.string y.f1,.bool y.f2,.bool y.f3,.int .i64 y.f4,.slice s.2.2.2.1 s.2.2.2.2.1 s.2.2.2.2.2]),(19,.bool ok),(6,.pointer (some ⟨s.1,0,none⟩)),(7,.pointer (some ⟨s.2.1,0,none⟩))]) (fun s w' => w'.heap[s.1]? = some (Obj.cells zR 25 (0,0)) ∧ w'.heap[s.2.1]? = some (Obj.cells zM 37 (0,0)) ∧ Below X.heap.size X w' ∧ X.heap.size ≤ s.1 ∧ X.heap.size ≤ s.2.1) ?_ ?_
 rotate_left
 ·
  intro hCont
  refine three_ (i:=4) (j:=11) (k:=12) (Ni:=some 14) (Nj:=some 6) (Nk:=some 7) #[true,true,true,true,true,true,false,false,false,false,false,false,false,false,false,false] #[true,true,true,true,false,true,false,false,false,false,false,true,false,false,false,false] #[true,true,true,true,false,true,false,false,false,false,false,false,true,false,false,false] rfl rfl rfl rfl rfl rfl (by kernel_rfl) (by decide) (by decide) (by decide) (fun K hK => ?_) (fun K hK => ?_) (fun K hK => ?_)
  ·
   skip
   refine sG Try.func79 #[.agg (pG A0 l0 c0 A1 l1 c1 a2 a3 a4),.string b0] ?_
   refine (HS.out X (HB0.out.trans (HBc.out.mono HS0.out))).mono ?_
   rintro e w4 ⟨vS,rfl,hR,hb⟩
   refine ⟨_,rfl,?_⟩
   replace HBc:=aq (HBc.out.trans (hb.mono HBc.out.size))
   have HRS:=aq hR
   clear hb hR
   refine hK.out _ _ ⟨(sC HBc.out z0),(sC HBc.out z1),(sC HBc.out z2),(sC HBc.out z3),(sC HBc.out z4),(sC HBc.out z5),(sC HBc.out z6),(sC HBc.out z7)⟩ (fun hHeld => ?_)
   clear hK K
   refine sN ?_
   refine three_ (i:=6) (j:=11) (k:=12) (Ni:=some 16) (Nj:=some 6) (Nk:=some 7) #[true,true,true,true,true,true,true,false,false,false,false,false,false,false,false,false] #[true,true,true,true,true,true,false,false,false,false,false,true,false,false,false,false] #[true,true,true,true,true,true,false,false,false,false,false,false,true,false,false,false] rfl rfl rfl rfl rfl rfl (by kernel_rfl) (by decide) (by decide) (by decide) (fun K hK => ?_) (fun K hK => ?_) (fun K hK => ?_)
   ·
    skip
    obtain ⟨AS,cS,rfl,hcS,hCS⟩:=Kd.R_reads HRS.out
    refine sG Try.func81 #[.agg (pG A0 l0 c0 A1 l1 c1 a2 a3 a4),.slice AS xs.length cS,.agg #[.string b0,.string b1,.string b2]] ?_
    refine (HF.out AS cS w4 (HB0.out.trans (HBc.out.mono HS0.out)) hCS hcS).mono ?_
    rintro e w6 ⟨AM,nM,cM,rfl,hb⟩
    refine ⟨_,rfl,?_⟩
    replace HRS:=aq (Kd.R_below HRS.out hb)
    replace HBc:=aq (HBc.out.trans (hb.mono HBc.out.size))
    clear hb hCS
    refine hK.out _ _ ⟨(sC HBc.out z0),(sC HBc.out z1),(sC HBc.out z2),(sC HBc.out z3),(sC HBc.out z4),(sC HBc.out z5),(sC HBc.out z6),(sC HBc.out z7)⟩ (fun hHeld => ?_)
    clear hK K
    refine sN ?_
    refine sP (i:=7) (N:=some 9) ?_
    refine sP (i:=8) (N:=some 17) ?_
    refine sP (i:=9) (N:=some 18) ?_
    refine sP (i:=10) (N:=some 19) ?_
    refine sW (i:=11) (j:=12) (Ni:=some 6) (Nj:=some 7) (fun K hK => ?_) fun K hK => ?_
    ·
     skip
     refine value_ (w1:=?_) (v:=?_) (by rfl) rfl ?_ ?_
     rotate_left 2
     ·
      go_simp
      constructor
      ·
       rfl
      ·
       rfl
     have HGX : Aside0 (X.heap.size ≤ w6.heap.size):=⟨by have h:=HBc.out.size;first|exact h|(rw [World.size_alloc] at h;exact h)⟩
     have hb : Below w6.heap.size w6 (w6.alloc (Obj.cells zR 25)):=below_alloc (Below.refl _ _) _
     replace HBc:=aq (HBc.out.trans (hb.mono HBc.out.size))
     have HX : Aside0 ((w6.alloc (Obj.cells zR 25)).heap[w6.heap.size]? = some (Obj.cells zR 25 (0,0))):=⟨by have h:=World.alloc_heap_new w6 (Obj.cells zR 25);first|exact h|(rw [World.size_alloc] at h;exact h)⟩
     clear hb
     refine hK.out _ _ ⟨(sC HBc.out z0),(sC HBc.out z1),(sC HBc.out z2),(sC HBc.out z3),(sC HBc.out z4),(sC HBc.out z5),(sC HBc.out z6),(sC HBc.out z7)⟩ (fun hHeld => ?_)
     clear hK K
     refine sN ?_
     refine sO (i:=12) (N:=some 7) fun K hK => ?_
     refine value_ (w1:=?_) (v:=?_) (by rfl) rfl ?_ ?_
     rotate_left 2
     ·
      go_simp
      constructor
      ·
       rfl
      ·
       rfl
     have HGY : Aside0 (X.heap.size ≤ w6.heap.size + 1):=⟨by have h:=HBc.out.size;first|exact h|(rw [World.size_alloc] at h;exact h)⟩
     have hb : Below (w6.alloc (Obj.cells zR 25)).heap.size (w6.alloc (Obj.cells zR 25)) ((w6.alloc (Obj.cells zR 25)).alloc (Obj.cells zM 37)):=below_alloc (Below.refl _ _) _
     replace HX:=aq (blk_below HX.out hb)
     replace HBc:=aq (HBc.out.trans (hb.mono HBc.out.size))
     have HY : Aside0 (((w6.alloc (Obj.cells zR 25)).alloc (Obj.cells zM 37)).heap[w6.heap.size + 1]? = some (Obj.cells zM 37 (0,0))):=⟨by have h:=World.alloc_heap_new (w6.alloc (Obj.cells zR 25)) (Obj.cells zM 37);first|exact h|(rw [World.size_alloc] at h;exact h)⟩
     clear hb
     refine hK.out _ _ ⟨(sC HBc.out z0),(sC HBc.out z1),(sC HBc.out z2),(sC HBc.out z3),(sC HBc.out z4),(sC HBc.out z5),(sC HBc.out z6),(sC HBc.out z7)⟩ (fun hHeld => ?_)
     clear hK K
     refine sN ?_
     exact norm_ (by simp only [putAll,Act.put,List.setIfInBounds_toArray,List.set_cons_zero,List.set_cons_succ]) (hCont (w6.heap.size,w6.heap.size + 1,.slice AS xs.length cS,AM,nM,cM) _ ⟨HX.out,HY.out,HBc.out,HGX.out,HGY.out⟩)
    ·
     skip
     refine value_ (w1:=?_) (v:=?_) (by rfl) rfl ?_ ?_
     rotate_left 2
     ·
      go_simp
      constructor
      ·
       rfl
      ·
       rfl
     have HGY : Aside0 (X.heap.size ≤ w6.heap.size):=⟨by have h:=HBc.out.size;first|exact h|(rw [World.size_alloc] at h;exact h)⟩
     have hb : Below w6.heap.size w6 (w6.alloc (Obj.cells zM 37)):=below_alloc (Below.refl _ _) _
     replace HBc:=aq (HBc.out.trans (hb.mono HBc.out.size))
     have HY : Aside0 ((w6.alloc (Obj.cells zM 37)).heap[w6.heap.size]? = some (Obj.cells zM 37 (0,0))):=⟨by have h:=World.alloc_heap_new w6 (Obj.cells zM 37);first|exact h|(rw [World.size_alloc] at h;exact h)⟩
     clear hb
     refine hK.out _ _ ⟨(sC HBc.out z0),(sC HBc.out z1),(sC HBc.out z2),(sC HBc.out z3),(sC HBc.out z4),(sC HBc.out z5),(sC HBc.out z6),(sC HBc.out z7)⟩ (fun hHeld => ?_)
     clear hK K
     refine sN ?_
     refine sO (i:=11) (N:=some 6) fun K hK => ?_
     refine value_ (w1:=?_) (v:=?_) (by rfl) rfl ?_ ?_
     rotate_left 2
     ·
      go_simp
      constructor
      ·
       rfl
      ·
       rfl
     have HGX : Aside0 (X.heap.size ≤ w6.heap.size + 1):=⟨by have h:=HBc.out.size;first|exact h|(rw [World.size_alloc] at h;exact h)⟩
     have hb : Below (w6.alloc (Obj.cells zM 37)).heap.size (w6.alloc (Obj.cells zM 37)) ((w6.alloc (Obj.cells zM 37)).alloc (Obj.cells zR 25)):=below_alloc (Below.refl _ _) _
     replace HY:=aq (blk_below HY.out hb)
     replace HBc:=aq (HBc.out.trans (hb.mono HBc.out.size))
     have HX : Aside0 (((w6.alloc (Obj.cells zM 37)).alloc (Obj.cells zR 25)).heap[w6.heap.size + 1]? = some (Obj.cells zR 25 (0,0))):=⟨by have h:=World.alloc_heap_new (w6.alloc (Obj.cells zM 37)) (Obj.cells zR 25);first|exact h|(rw [World.size_alloc] at h;exact h)⟩
     clear hb
     refine hK.out _ _ ⟨(sC HBc.out z0),(sC HBc.out z1),(sC HBc.out z2),(sC HBc.out z3),(sC HBc.out z4),(sC HBc.out z5),(sC HBc.out z6),(sC HBc.out z7)⟩ (fun hHeld => ?_)
     clear hK K
     refine sN ?_
     exact norm_ (by simp only [putAll,Act.put,List.setIfInBounds_toArray,List.set_cons_zero,List.set_cons_succ]) (hCont (w6.heap.size + 1,w6.heap.size,.slice AS xs.length cS,AM,nM,cM) _ ⟨HX.out,HY.out,HBc.out,HGX.out,HGY.out⟩)
   ·
    skip
    refine value_ (w1:=?_) (v:=?_) (by rfl) rfl ?_ ?_
    rotate_left 2
    ·
     go_simp
     constructor
     ·
      rfl
     ·
      rfl
    have HGX : Aside0 (X.heap.size ≤ w4.heap.size):=⟨by have h:=HBc.out.size;first|exact h|(rw [World.size_alloc] at h;exact h)⟩
    have hb : Below w4.heap.size w4 (w4.alloc (Obj.cells zR 25)):=below_alloc (Below.refl _ _) _
    replace HRS:=aq (Kd.R_below HRS.out hb)
    replace HBc:=aq (HBc.out.trans (hb.mono HBc.out.size))
    have HX : Aside0 ((w4.alloc (Obj.cells zR 25)).heap[w4.heap.size]? = some (Obj.cells zR 25 (0,0))):=⟨by have h:=World.alloc_heap_new w4 (Obj.cells zR 25);first|exact h|(rw [World.size_alloc] at h;exact h)⟩
    clear hb
    refine hK.out _ _ ⟨(sC HBc.out z0),(sC HBc.out z1),(sC HBc.out z2),(sC HBc.out z3),(sC HBc.out z4),(sC HBc.out z5),(sC HBc.out z6),(sC HBc.out z7)⟩ (fun hHeld => ?_)
    clear hK K
    refine sN ?_
    refine sW (i:=6) (j:=12) (Ni:=some 16) (Nj:=some 7) (fun K hK => ?_) fun K hK => ?_
    ·
     skip
     obtain ⟨AS,cS,rfl,hcS,hCS⟩:=Kd.R_reads HRS.out
     refine sG Try.func81 #[.agg (pG A0 l0 c0 A1 l1 c1 a2 a3 a4),.slice AS xs.length cS,.agg #[.string b0,.string b1,.string b2]] ?_
     refine (HF.out AS cS (w4.alloc (Obj.cells zR 25)) (HB0.out.trans (HBc.out.mono HS0.out)) hCS hcS).mono ?_
     rintro e w6 ⟨AM,nM,cM,rfl,hb⟩
     refine ⟨_,rfl,?_⟩
     replace HX:=aq (blk_below HX.out hb)
     replace HRS:=aq (Kd.R_below HRS.out hb)
     replace HBc:=aq (HBc.out.trans (hb.mono HBc.out.size))
     clear hb hCS
     refine hK.out _ _ ⟨(sC HBc.out z0),(sC HBc.out z1),(sC HBc.out z2),(sC HBc.out z3),(sC HBc.out z4),(sC HBc.out z5),(sC HBc.out z6),(sC HBc.out z7)⟩ (fun hHeld => ?_)
     clear hK K
     refine sN ?_
     refine sP (i:=7) (N:=some 9) ?_
     refine sP (i:=8) (N:=some 17) ?_
     refine sP (i:=9) (N:=some 18) ?_
     refine sP (i:=10) (N:=some 19) ?_
     refine sO (i:=12) (N:=some 7) fun K hK => ?_
     refine value_ (w1:=?_) (v:=?_) (by rfl) rfl ?_ ?_
     rotate_left 2
     ·
      go_simp
      constructor
      ·
       rfl
      ·
       rfl
     have HGY : Aside0 (X.heap.size ≤ w6.heap.size):=⟨by have h:=HBc.out.size;first|exact h|(rw [World.size_alloc] at h;exact h)⟩
     have hb : Below w6.heap.size w6 (w6.alloc (Obj.cells zM 37)):=below_alloc (Below.refl _ _) _
     replace HX:=aq (blk_below HX.out hb)
     replace HBc:=aq (HBc.out.trans (hb.mono HBc.out.size))
     have HY : Aside0 ((w6.alloc (Obj.cells zM 37)).heap[w6.heap.size]? = some (Obj.cells zM 37 (0,0))):=⟨by have h:=World.alloc_heap_new w6 (Obj.cells zM 37);first|exact h|(rw [World.size_alloc] at h;exact h)⟩
     clear hb
     refine hK.out _ _ ⟨(sC HBc.out z0),(sC HBc.out z1),(sC HBc.out z2),(sC HBc.out z3),(sC HBc.out z4),(sC HBc.out z5),(sC HBc.out z6),(sC HBc.out z7)⟩ (fun hHeld => ?_)
     clear hK K
     refine sN ?_
     exact norm_ (by simp only [putAll,Act.put,List.setIfInBounds_toArray,List.set_cons_zero,List.set_cons_succ]) (hCont (w4.heap.size,w6.heap.size,.slice AS xs.length cS,AM,nM,cM) _ ⟨HX.out,HY.out,HBc.out,HGX.out,HGY.out⟩)
    ·
     skip
     refine value_ (w1:=?_) (v:=?_) (by rfl) rfl ?_ ?_
     rotate_left 2
     ·
      go_simp
      constructor
      ·
       rfl
      ·
       rfl
     have HGY : Aside0 (X.heap.size ≤ w4.heap.size + 1):=⟨by have h:=HBc.out.size;first|exact h|(rw [World.size_alloc] at h;exact h)⟩
     have hb : Below (w4.alloc (Obj.cells zR 25)).heap.size (w4.alloc (Obj.cells zR 25)) ((w4.alloc (Obj.cells zR 25)).alloc (Obj.cells zM 37)):=below_alloc (Below.refl _ _) _
     replace HX:=aq (blk_below HX.out hb)
     replace HRS:=aq (Kd.R_below HRS.out hb)
     replace HBc:=aq (HBc.out.trans (hb.mono HBc.out.size))
     have HY : Aside0 (((w4.alloc (Obj.cells zR 25)).alloc (Obj.cells zM 37)).heap[w4.heap.size + 1]? = some (Obj.cells zM 37 (0,0))):=⟨by have h:=World.alloc_heap_new (w4.alloc (Obj.cells zR 25)) (Obj.cells zM 37);first|exact h|(rw [World.size_alloc] at h;exact h)⟩
     clear hb
     refine hK.out _ _ ⟨(sC HBc.out z0),(sC HBc.out z1),(sC HBc.out z2),(sC HBc.out z3),(sC HBc.out z4),(sC HBc.out z5),(sC HBc.out z6),(sC HBc.out z7)⟩ (fun hHeld => ?_)
     clear hK K
     refine sN ?_
     refine sO (i:=6) (N:=some 16) fun K hK => ?_
     obtain ⟨AS,cS,rfl,hcS,hCS⟩:=Kd.R_reads HRS.out
     refine sG Try.func81 #[.agg (pG A0 l0 c0 A1 l1 c1 a2 a3 a4),.slice AS xs.length cS,.agg #[.string b0,.string b1,.string b2]] ?_
     refine (HF.out AS cS ((w4.alloc (Obj.cells zR 25)).alloc (Obj.cells zM 37)) (HB0.out.trans (HBc.out.mono HS0.out)) hCS hcS).mono ?_
     rintro e w6 ⟨AM,nM,cM,rfl,hb⟩
     refine ⟨_,rfl,?_⟩
     replace HX:=aq (blk_below HX.out hb)
     replace HY:=aq (blk_below HY.out hb)
     replace HRS:=aq (Kd.R_below HRS.out hb)
     replace HBc:=aq (HBc.out.trans (hb.mono HBc.out.size))
     clear hb hCS
     refine hK.out _ _ ⟨(sC HBc.out z0),(sC HBc.out z1),(sC HBc.out z2),(sC HBc.out z3),(sC HBc.out z4),(sC HBc.out z5),(sC HBc.out z6),(sC HBc.out z7)⟩ (fun hHeld => ?_)
     clear hK K
     refine sN ?_
     refine sP (i:=7) (N:=some 9) ?_
     refine sP (i:=8) (N:=some 17) ?_
     refine sP (i:=9) (N:=some 18) ?_
     refine sP (i:=10) (N:=some 19) ?_
     exact norm_ (by simp only [putAll,Act.put,List.setIfInBounds_toArray,List.set_cons_zero,List.set_cons_succ]) (hCont (w4.heap.size,w4.heap.size + 1,.slice AS xs.length cS,AM,nM,cM) _ ⟨HX.out,HY.out,HBc.out,HGX.out,HGY.out⟩)
   ·
    skip
    refine value_ (w1:=?_) (v:=?_) (by rfl) rfl ?_ ?_
    rotate_left 2
    ·
     go_simp
     constructor
     ·
      rfl
     ·
      rfl
    have HGY : Aside0 (X.heap.size ≤ w4.heap.size):=⟨by have h:=HBc.out.size;first|exact h|(rw [World.size_alloc] at h;exact h)⟩
    have hb : Below w4.heap.size w4 (w4.alloc (Obj.cells zM 37)):=below_alloc (Below.refl _ _) _
    replace HRS:=aq (Kd.R_below HRS.out hb)
    replace HBc:=aq (HBc.out.trans (hb.mono HBc.out.size))
    have HY : Aside0 ((w4.alloc (Obj.cells zM 37)).heap[w4.heap.size]? = some (Obj.cells zM 37 (0,0))):=⟨by have h:=World.alloc_heap_new w4 (Obj.cells zM 37);first|exact h|(rw [World.size_alloc] at h;exact h)⟩
    clear hb
    refine hK.out _ _ ⟨(sC HBc.out z0),(sC HBc.out z1),(sC HBc.out z2),(sC HBc.out z3),(sC HBc.out z4),(sC HBc.out z5),(sC HBc.out z6),(sC HBc.out z7)⟩ (fun hHeld => ?_)
    clear hK K
    refine sN ?_
    refine sW (i:=6) (j:=11) (Ni:=some 16) (Nj:=some 6) (fun K hK => ?_) fun K hK => ?_
    ·
     skip
     obtain ⟨AS,cS,rfl,hcS,hCS⟩:=Kd.R_reads HRS.out
     refine sG Try.func81 #[.agg (pG A0 l0 c0 A1 l1 c1 a2 a3 a4),.slice AS xs.length cS,.agg #[.string b0,.string b1,.string b2]] ?_
     refine (HF.out AS cS (w4.alloc (Obj.cells zM 37)) (HB0.out.trans (HBc.out.mono HS0.out)) hCS hcS).mono ?_
     rintro e w6 ⟨AM,nM,cM,rfl,hb⟩
     refine ⟨_,rfl,?_⟩
     replace HY:=aq (blk_below HY.out hb)
     replace HRS:=aq (Kd.R_below HRS.out hb)
     replace HBc:=aq (HBc.out.trans (hb.mono HBc.out.size))
     clear hb hCS
     refine hK.out _ _ ⟨(sC HBc.out z0),(sC HBc.out z1),(sC HBc.out z2),(sC HBc.out z3),(sC HBc.out z4),(sC HBc.out z5),(sC HBc.out z6),(sC HBc.out z7)⟩ (fun hHeld => ?_)
     clear hK K
     refine sN ?_
     refine sP (i:=7) (N:=some 9) ?_
     refine sP (i:=8) (N:=some 17) ?_
     refine sP (i:=9) (N:=some 18) ?_
     refine sP (i:=10) (N:=some 19) ?_
     refine sO (i:=11) (N:=some 6) fun K hK => ?_
     refine value_ (w1:=?_) (v:=?_) (by rfl) rfl ?_ ?_
     rotate_left 2
     ·
      go_simp
      constructor
      ·
       rfl
      ·
       rfl
     have HGX : Aside0 (X.heap.size ≤ w6.heap.size):=⟨by have h:=HBc.out.size;first|exact h|(rw [World.size_alloc] at h;exact h)⟩
     have hb : Below w6.heap.size w6 (w6.alloc (Obj.cells zR 25)):=below_alloc (Below.refl _ _) _
     replace HY:=aq (blk_below HY.out hb)
     replace HBc:=aq (HBc.out.trans (hb.mono HBc.out.size))
     have HX : Aside0 ((w6.alloc (Obj.cells zR 25)).heap[w6.heap.size]? = some (Obj.cells zR 25 (0,0))):=⟨by have h:=World.alloc_heap_new w6 (Obj.cells zR 25);first|exact h|(rw [World.size_alloc] at h;exact h)⟩
     clear hb
     refine hK.out _ _ ⟨(sC HBc.out z0),(sC HBc.out z1),(sC HBc.out z2),(sC HBc.out z3),(sC HBc.out z4),(sC HBc.out z5),(sC HBc.out z6),(sC HBc.out z7)⟩ (fun hHeld => ?_)
     clear hK K
     refine sN ?_
     exact norm_ (by simp only [putAll,Act.put,List.setIfInBounds_toArray,List.set_cons_zero,List.set_cons_succ]) (hCont (w6.heap.size,w4.heap.size,.slice AS xs.length cS,AM,nM,cM) _ ⟨HX.out,HY.out,HBc.out,HGX.out,HGY.out⟩)
    ·
     skip
     refine value_ (w1:=?_) (v:=?_) (by rfl) rfl ?_ ?_
     rotate_left 2
     ·
      go_simp
      constructor
      ·
       rfl
      ·
       rfl
     have HGX : Aside0 (X.heap.size ≤ w4.heap.size + 1):=⟨by have h:=HBc.out.size;first|exact h|(rw [World.size_alloc] at h;exact h)⟩
     have hb : Below (w4.alloc (Obj.cells zM 37)).heap.size (w4.alloc (Obj.cells zM 37)) ((w4.alloc (Obj.cells zM 37)).alloc (Obj.cells zR 25)):=below_alloc (Below.refl _ _) _
     replace HY:=aq (blk_below HY.out hb)
     replace HRS:=aq (Kd.R_below HRS.out hb)
     replace HBc:=aq (HBc.out.trans (hb.mono HBc.out.size))
     have HX : Aside0 (((w4.alloc (Obj.cells zM 37)).alloc (Obj.cells zR 25)).heap[w4.heap.size + 1]? = some (Obj.cells zR 25 (0,0))):=⟨by have h:=World.alloc_heap_new (w4.alloc (Obj.cells zM 37)) (Obj.cells zR 25);first|exact h|(rw [World.size_alloc] at h;exact h)⟩
     clear hb
     refine hK.out _ _ ⟨(sC HBc.out z0),(sC HBc.out z1),(sC HBc.out z2),(sC HBc.out z3),(sC HBc.out z4),(sC HBc.out z5),(sC HBc.out z6),(sC HBc.out z7)⟩ (fun hHeld => ?_)
     clear hK K
     refine sN ?_
     refine sO (i:=6) (N:=some 16) fun K hK => ?_
     obtain ⟨AS,cS,rfl,hcS,hCS⟩:=Kd.R_reads HRS.out
     refine sG Try.func81 #[.agg (pG A0 l0 c0 A1 l1 c1 a2 a3 a4),.slice AS xs.length cS,.agg #[.string b0,.string b1,.string b2]] ?_
     refine (HF.out AS cS ((w4.alloc (Obj.cells zM 37)).alloc (Obj.cells zR 25)) (HB0.out.trans (HBc.out.mono HS0.out)) hCS hcS).mono ?_
     rintro e w6 ⟨AM,nM,cM,rfl,hb⟩
     refine ⟨_,rfl,?_⟩
     replace HX:=aq (blk_below HX.out hb)
     replace HY:=aq (blk_below HY.out hb)
     replace HRS:=aq (Kd.R_below HRS.out hb)
     replace HBc:=aq (HBc.out.trans (hb.mono HBc.out.size))
     clear hb hCS
     refine hK.out _ _ ⟨(sC HBc.out z0),(sC HBc.out z1),(sC HBc.out z2),(sC HBc.out z3),(sC HBc.out z4),(sC HBc.out z5),(sC HBc.out z6),(sC HBc.out z7)⟩ (fun hHeld => ?_)
     clear hK K
     refine sN ?_
     refine sP (i:=7) (N:=some 9) ?_
     refine sP (i:=8) (N:=some 17) ?_
     refine sP (i:=9) (N:=some 18) ?_
     refine sP (i:=10) (N:=some 19) ?_
     exact norm_ (by simp only [putAll,Act.put,List.setIfInBounds_toArray,List.set_cons_zero,List.set_cons_succ]) (hCont (w4.heap.size + 1,w4.heap.size,.slice AS xs.length cS,AM,nM,cM) _ ⟨HX.out,HY.out,HBc.out,HGX.out,HGY.out⟩)
  ·
   skip
   refine value_ (w1:=?_) (v:=?_) (by rfl) rfl ?_ ?_
   rotate_left 2
   ·
    go_simp
    constructor
    ·
     rfl
    ·
     rfl
   have HGX : Aside0 (X.heap.size ≤ X.heap.size):=⟨by have h:=HBc.out.size;first|exact h|(rw [World.size_alloc] at h;exact h)⟩
   have hb : Below X.heap.size X (X.alloc (Obj.cells zR 25)):=below_alloc (Below.refl _ _) _
   replace HBc:=aq (HBc.out.trans (hb.mono HBc.out.size))
   have HX : Aside0 ((X.alloc (Obj.cells zR 25)).heap[X.heap.size]? = some (Obj.cells zR 25 (0,0))):=⟨by have h:=World.alloc_heap_new X (Obj.cells zR 25);first|exact h|(rw [World.size_alloc] at h;exact h)⟩
   clear hb
   refine hK.out _ _ ⟨(sC HBc.out z0),(sC HBc.out z1),(sC HBc.out z2),(sC HBc.out z3),(sC HBc.out z4),(sC HBc.out z5),(sC HBc.out z6),(sC HBc.out z7)⟩ (fun hHeld => ?_)
   clear hK K
   refine sN ?_
   refine sW (i:=4) (j:=12) (Ni:=some 14) (Nj:=some 7) (fun K hK => ?_) fun K hK => ?_
   ·
    skip
    refine sG Try.func79 #[.agg (pG A0 l0 c0 A1 l1 c1 a2 a3 a4),.string b0] ?_
    refine (HS.out (X.alloc (Obj.cells zR 25)) (HB0.out.trans (HBc.out.mono HS0.out))).mono ?_
    rintro e w4 ⟨vS,rfl,hR,hb⟩
    refine ⟨_,rfl,?_⟩
    replace HX:=aq (blk_below HX.out hb)
    replace HBc:=aq (HBc.out.trans (hb.mono HBc.out.size))
    have HRS:=aq hR
    clear hb hR
    refine hK.out _ _ ⟨(sC HBc.out z0),(sC HBc.out z1),(sC HBc.out z2),(sC HBc.out z3),(sC HBc.out z4),(sC HBc.out z5),(sC HBc.out z6),(sC HBc.out z7)⟩ (fun hHeld => ?_)
    clear hK K
    refine sN ?_
    refine sW (i:=6) (j:=12) (Ni:=some 16) (Nj:=some 7) (fun K hK => ?_) fun K hK => ?_
    ·
     skip
     obtain ⟨AS,cS,rfl,hcS,hCS⟩:=Kd.R_reads HRS.out
     refine sG Try.func81 #[.agg (pG A0 l0 c0 A1 l1 c1 a2 a3 a4),.slice AS xs.length cS,.agg #[.string b0,.string b1,.string b2]] ?_
     refine (HF.out AS cS w4 (HB0.out.trans (HBc.out.mono HS0.out)) hCS hcS).mono ?_
     rintro e w6 ⟨AM,nM,cM,rfl,hb⟩
     refine ⟨_,rfl,?_⟩
     replace HX:=aq (blk_below HX.out hb)
     replace HRS:=aq (Kd.R_below HRS.out hb)
     replace HBc:=aq (HBc.out.trans (hb.mono HBc.out.size))
     clear hb hCS
     refine hK.out _ _ ⟨(sC HBc.out z0),(sC HBc.out z1),(sC HBc.out z2),(sC HBc.out z3),(sC HBc.out z4),(sC HBc.out z5),(sC HBc.out z6),(sC HBc.out z7)⟩ (fun hHeld => ?_)
     clear hK K
     refine sN ?_
     refine sP (i:=7) (N:=some 9) ?_
     refine sP (i:=8) (N:=some 17) ?_
     refine sP (i:=9) (N:=some 18) ?_
     refine sP (i:=10) (N:=some 19) ?_
     refine sO (i:=12) (N:=some 7) fun K hK => ?_
     refine value_ (w1:=?_) (v:=?_) (by rfl) rfl ?_ ?_
     rotate_left 2
     ·
      go_simp
      constructor
      ·
       rfl
      ·
       rfl
     have HGY : Aside0 (X.heap.size ≤ w6.heap.size):=⟨by have h:=HBc.out.size;first|exact h|(rw [World.size_alloc] at h;exact h)⟩
     have hb : Below w6.heap.size w6 (w6.alloc (Obj.cells zM 37)):=below_alloc (Below.refl _ _) _
     replace HX:=aq (blk_below HX.out hb)
     replace HBc:=aq (HBc.out.trans (hb.mono HBc.out.size))
     have HY : Aside0 ((w6.alloc (Obj.cells zM 37)).heap[w6.heap.size]? = some (Obj.cells zM 37 (0,0))):=⟨by have h:=World.alloc_heap_new w6 (Obj.cells zM 37);first|exact h|(rw [World.size_alloc] at h;exact h)⟩
     clear hb
     refine hK.out _ _ ⟨(sC HBc.out z0),(sC HBc.out z1),(sC HBc.out z2),(sC HBc.out z3),(sC HBc.out z4),(sC HBc.out z5),(sC HBc.out z6),(sC HBc.out z7)⟩ (fun hHeld => ?_)
     clear hK K
     refine sN ?_
     exact norm_ (by simp only [putAll,Act.put,List.setIfInBounds_toArray,List.set_cons_zero,List.set_cons_succ]) (hCont (X.heap.size,w6.heap.size,.slice AS xs.length cS,AM,nM,cM) _ ⟨HX.out,HY.out,HBc.out,HGX.out,HGY.out⟩)
    ·
     skip
     refine value_ (w1:=?_) (v:=?_) (by rfl) rfl ?_ ?_
     rotate_left 2
     ·
      go_simp
      constructor
      ·
       rfl
      ·
       rfl
     have HGY : Aside0 (X.heap.size ≤ w4.heap.size):=⟨by have h:=HBc.out.size;first|exact h|(rw [World.size_alloc] at h;exact h)⟩
     have hb : Below w4.heap.size w4 (w4.alloc (Obj.cells zM 37)):=below_alloc (Below.refl _ _) _
     replace HX:=aq (blk_below HX.out hb)
     replace HRS:=aq (Kd.R_below HRS.out hb)
     replace HBc:=aq (HBc.out.trans (hb.mono HBc.out.size))
     have HY : Aside0 ((w4.alloc (Obj.cells zM 37)).heap[w4.heap.size]? = some (Obj.cells zM 37 (0,0))):=⟨by have h:=World.alloc_heap_new w4 (Obj.cells zM 37);first|exact h|(rw [World.size_alloc] at h;exact h)⟩
     clear hb
     refine hK.out _ _ ⟨(sC HBc.out z0),(sC HBc.out z1),(sC HBc.out z2),(sC HBc.out z3),(sC HBc.out z4),(sC HBc.out z5),(sC HBc.out z6),(sC HBc.out z7)⟩ (fun hHeld => ?_)
     clear hK K
     refine sN ?_
     refine sO (i:=6) (N:=some 16) fun K hK => ?_
     obtain ⟨AS,cS,rfl,hcS,hCS⟩:=Kd.R_reads HRS.out
     refine sG Try.func81 #[.agg (pG A0 l0 c0 A1 l1 c1 a2 a3 a4),.slice AS xs.length cS,.agg #[.string b0,.string b1,.string b2]] ?_
     refine (HF.out AS cS (w4.alloc (Obj.cells zM 37)) (HB0.out.trans (HBc.out.mono HS0.out)) hCS hcS).mono ?_
     rintro e w6 ⟨AM,nM,cM,rfl,hb⟩
     refine ⟨_,rfl,?_⟩
     replace HX:=aq (blk_below HX.out hb)
     replace HY:=aq (blk_below HY.out hb)
     replace HRS:=aq (Kd.R_below HRS.out hb)
     replace HBc:=aq (HBc.out.trans (hb.mono HBc.out.size))
     clear hb hCS
     refine hK.out _ _ ⟨(sC HBc.out z0),(sC HBc.out z1),(sC HBc.out z2),(sC HBc.out z3),(sC HBc.out z4),(sC HBc.out z5),(sC HBc.out z6),(sC HBc.out z7)⟩ (fun hHeld => ?_)
     clear hK K
     refine sN ?_
     refine sP (i:=7) (N:=some 9) ?_
     refine sP (i:=8) (N:=some 17) ?_
     refine sP (i:=9) (N:=some 18) ?_
     refine sP (i:=10) (N:=some 19) ?_
     exact norm_ (by simp only [putAll,Act.put,List.setIfInBounds_toArray,List.set_cons_zero,List.set_cons_succ]) (hCont (X.heap.size,w4.heap.size,.slice AS xs.length cS,AM,nM,cM) _ ⟨HX.out,HY.out,HBc.out,HGX.out,HGY.out⟩)
   ·
    skip
    refine value_ (w1:=?_) (v:=?_) (by rfl) rfl ?_ ?_
    rotate_left 2
    ·
     go_simp
     constructor
     ·
      rfl
     ·
      rfl
    have HGY : Aside0 (X.heap.size ≤ X.heap.size + 1):=⟨by have h:=HBc.out.size;first|exact h|(rw [World.size_alloc] at h;exact h)⟩
    have hb : Below (X.alloc (Obj.cells zR 25)).heap.size (X.alloc (Obj.cells zR 25)) ((X.alloc (Obj.cells zR 25)).alloc (Obj.cells zM 37)):=below_alloc (Below.refl _ _) _
    replace HX:=aq (blk_below HX.out hb)
    replace HBc:=aq (HBc.out.trans (hb.mono HBc.out.size))
    have HY : Aside0 (((X.alloc (Obj.cells zR 25)).alloc (Obj.cells zM 37)).heap[X.heap.size + 1]? = some (Obj.cells zM 37 (0,0))):=⟨by have h:=World.alloc_heap_new (X.alloc (Obj.cells zR 25)) (Obj.cells zM 37);first|exact h|(rw [World.size_alloc] at h;exact h)⟩
    clear hb
    refine hK.out _ _ ⟨(sC HBc.out z0),(sC HBc.out z1),(sC HBc.out z2),(sC HBc.out z3),(sC HBc.out z4),(sC HBc.out z5),(sC HBc.out z6),(sC HBc.out z7)⟩ (fun hHeld => ?_)
    clear hK K
    refine sN ?_
    refine sO (i:=4) (N:=some 14) fun K hK => ?_
    refine sG Try.func79 #[.agg (pG A0 l0 c0 A1 l1 c1 a2 a3 a4),.string b0] ?_
    refine (HS.out ((X.alloc (Obj.cells zR 25)).alloc (Obj.cells zM 37)) (HB0.out.trans (HBc.out.mono HS0.out))).mono ?_
    rintro e w4 ⟨vS,rfl,hR,hb⟩
    refine ⟨_,rfl,?_⟩
    replace HX:=aq (blk_below HX.out hb)
    replace HY:=aq (blk_below HY.out hb)
    replace HBc:=aq (HBc.out.trans (hb.mono HBc.out.size))
    have HRS:=aq hR
    clear hb hR
    refine hK.out _ _ ⟨(sC HBc.out z0),(sC HBc.out z1),(sC HBc.out z2),(sC HBc.out z3),(sC HBc.out z4),(sC HBc.out z5),(sC HBc.out z6),(sC HBc.out z7)⟩ (fun hHeld => ?_)
    clear hK K
    refine sN ?_
    refine sO (i:=6) (N:=some 16) fun K hK => ?_
    obtain ⟨AS,cS,rfl,hcS,hCS⟩:=Kd.R_reads HRS.out
    refine sG Try.func81 #[.agg (pG A0 l0 c0 A1 l1 c1 a2 a3 a4),.slice AS xs.length cS,.agg #[.string b0,.string b1,.string b2]] ?_
    refine (HF.out AS cS w4 (HB0.out.trans (HBc.out.mono HS0.out)) hCS hcS).mono ?_
    rintro e w6 ⟨AM,nM,cM,rfl,hb⟩
    refine ⟨_,rfl,?_⟩
    replace HX:=aq (blk_below HX.out hb)
    replace HY:=aq (blk_below HY.out hb)
    replace HRS:=aq (Kd.R_below HRS.out hb)
    replace HBc:=aq (HBc.out.trans (hb.mono HBc.out.size))
    clear hb hCS
    refine hK.out _ _ ⟨(sC HBc.out z0),(sC HBc.out z1),(sC HBc.out z2),(sC HBc.out z3),(sC HBc.out z4),(sC HBc.out z5),(sC HBc.out z6),(sC HBc.out z7)⟩ (fun hHeld => ?_)
    clear hK K
    refine sN ?_
    refine sP (i:=7) (N:=some 9) ?_
    refine sP (i:=8) (N:=some 17) ?_
    refine sP (i:=9) (N:=some 18) ?_
    refine sP (i:=10) (N:=some 19) ?_
    exact norm_ (by simp only [putAll,Act.put,List.setIfInBounds_toArray,List.set_cons_zero,List.set_cons_succ]) (hCont (X.heap.size,X.heap.size + 1,.slice AS xs.length cS,AM,nM,cM) _ ⟨HX.out,HY.out,HBc.out,HGX.out,HGY.out⟩)
  ·
   skip
   refine value_ (w1:=?_) (v:=?_) (by rfl) rfl ?_ ?_
   rotate_left 2
   ·
    go_simp
    constructor
    ·
     rfl
    ·
     rfl
   have HGY : Aside0 (X.heap.size ≤ X.heap.size):=⟨by have h:=HBc.out.size;first|exact h|(rw [World.size_alloc] at h;exact h)⟩
   have hb : Below X.heap.size X (X.alloc (Obj.cells zM 37)):=below_alloc (Below.refl _ _) _
   replace HBc:=aq (HBc.out.trans (hb.mono HBc.out.size))
   have HY : Aside0 ((X.alloc (Obj.cells zM 37)).heap[X.heap.size]? = some (Obj.cells zM 37 (0,0))):=⟨by have h:=World.alloc_heap_new X (Obj.cells zM 37);first|exact h|(rw [World.size_alloc] at h;exact h)⟩
   clear hb
   refine hK.out _ _ ⟨(sC HBc.out z0),(sC HBc.out z1),(sC HBc.out z2),(sC HBc.out z3),(sC HBc.out z4),(sC HBc.out z5),(sC HBc.out z6),(sC HBc.out z7)⟩ (fun hHeld => ?_)
   clear hK K
   refine sN ?_
   refine sW (i:=4) (j:=11) (Ni:=some 14) (Nj:=some 6) (fun K hK => ?_) fun K hK => ?_
   ·
    skip
    refine sG Try.func79 #[.agg (pG A0 l0 c0 A1 l1 c1 a2 a3 a4),.string b0] ?_
    refine (HS.out (X.alloc (Obj.cells zM 37)) (HB0.out.trans (HBc.out.mono HS0.out))).mono ?_
    rintro e w4 ⟨vS,rfl,hR,hb⟩
    refine ⟨_,rfl,?_⟩
    replace HY:=aq (blk_below HY.out hb)
    replace HBc:=aq (HBc.out.trans (hb.mono HBc.out.size))
    have HRS:=aq hR
    clear hb hR
    refine hK.out _ _ ⟨(sC HBc.out z0),(sC HBc.out z1),(sC HBc.out z2),(sC HBc.out z3),(sC HBc.out z4),(sC HBc.out z5),(sC HBc.out z6),(sC HBc.out z7)⟩ (fun hHeld => ?_)
    clear hK K
    refine sN ?_
    refine sW (i:=6) (j:=11) (Ni:=some 16) (Nj:=some 6) (fun K hK => ?_) fun K hK => ?_
    ·
     skip
     obtain ⟨AS,cS,rfl,hcS,hCS⟩:=Kd.R_reads HRS.out
     refine sG Try.func81 #[.agg (pG A0 l0 c0 A1 l1 c1 a2 a3 a4),.slice AS xs.length cS,.agg #[.string b0,.string b1,.string b2]] ?_
     refine (HF.out AS cS w4 (HB0.out.trans (HBc.out.mono HS0.out)) hCS hcS).mono ?_
     rintro e w6 ⟨AM,nM,cM,rfl,hb⟩
     refine ⟨_,rfl,?_⟩
     replace HY:=aq (blk_below HY.out hb)
     replace HRS:=aq (Kd.R_below HRS.out hb)
     replace HBc:=aq (HBc.out.trans (hb.mono HBc.out.size))
     clear hb hCS
     refine hK.out _ _ ⟨(sC HBc.out z0),(sC HBc.out z1),(sC HBc.out z2),(sC HBc.out z3),(sC HBc.out z4),(sC HBc.out z5),(sC HBc.out z6),(sC HBc.out z7)⟩ (fun hHeld => ?_)
     clear hK K
     refine sN ?_
     refine sP (i:=7) (N:=some 9) ?_
     refine sP (i:=8) (N:=some 17) ?_
     refine sP (i:=9) (N:=some 18) ?_
     refine sP (i:=10) (N:=some 19) ?_
     refine sO (i:=11) (N:=some 6) fun K hK => ?_
     refine value_ (w1:=?_) (v:=?_) (by rfl) rfl ?_ ?_
     rotate_left 2
     ·
      go_simp
      constructor
      ·
       rfl
      ·
       rfl
     have HGX : Aside0 (X.heap.size ≤ w6.heap.size):=⟨by have h:=HBc.out.size;first|exact h|(rw [World.size_alloc] at h;exact h)⟩
     have hb : Below w6.heap.size w6 (w6.alloc (Obj.cells zR 25)):=below_alloc (Below.refl _ _) _
     replace HY:=aq (blk_below HY.out hb)
     replace HBc:=aq (HBc.out.trans (hb.mono HBc.out.size))
     have HX : Aside0 ((w6.alloc (Obj.cells zR 25)).heap[w6.heap.size]? = some (Obj.cells zR 25 (0,0))):=⟨by have h:=World.alloc_heap_new w6 (Obj.cells zR 25);first|exact h|(rw [World.size_alloc] at h;exact h)⟩
     clear hb
     refine hK.out _ _ ⟨(sC HBc.out z0),(sC HBc.out z1),(sC HBc.out z2),(sC HBc.out z3),(sC HBc.out z4),(sC HBc.out z5),(sC HBc.out z6),(sC HBc.out z7)⟩ (fun hHeld => ?_)
     clear hK K
     refine sN ?_
     exact norm_ (by simp only [putAll,Act.put,List.setIfInBounds_toArray,List.set_cons_zero,List.set_cons_succ]) (hCont (w6.heap.size,X.heap.size,.slice AS xs.length cS,AM,nM,cM) _ ⟨HX.out,HY.out,HBc.out,HGX.out,HGY.out⟩)
    ·
     skip
     refine value_ (w1:=?_) (v:=?_) (by rfl) rfl ?_ ?_
     rotate_left 2
     ·
      go_simp
      constructor
      ·
       rfl
      ·
       rfl
     have HGX : Aside0 (X.heap.size ≤ w4.heap.size):=⟨by have h:=HBc.out.size;first|exact h|(rw [World.size_alloc] at h;exact h)⟩
     have hb : Below w4.heap.size w4 (w4.alloc (Obj.cells zR 25)):=below_alloc (Below.refl _ _) _
     replace HY:=aq (blk_below HY.out hb)
     replace HRS:=aq (Kd.R_below HRS.out hb)
     replace HBc:=aq (HBc.out.trans (hb.mono HBc.out.size))
     have HX : Aside0 ((w4.alloc (Obj.cells zR 25)).heap[w4.heap.size]? = some (Obj.cells zR 25 (0,0))):=⟨by have h:=World.alloc_heap_new w4 (Obj.cells zR 25);first|exact h|(rw [World.size_alloc] at h;exact h)⟩
     clear hb
     refine hK.out _ _ ⟨(sC HBc.out z0),(sC HBc.out z1),(sC HBc.out z2),(sC HBc.out z3),(sC HBc.out z4),(sC HBc.out z5),(sC HBc.out z6),(sC HBc.out z7)⟩ (fun hHeld => ?_)
     clear hK K
     refine sN ?_
     refine sO (i:=6) (N:=some 16) fun K hK => ?_
     obtain ⟨AS,cS,rfl,hcS,hCS⟩:=Kd.R_reads HRS.out
     refine sG Try.func81 #[.agg (pG A0 l0 c0 A1 l1 c1 a2 a3 a4),.slice AS xs.length cS,.agg #[.string b0,.string b1,.string b2]] ?_
     refine (HF.out AS cS (w4.alloc (Obj.cells zR 25)) (HB0.out.trans (HBc.out.mono HS0.out)) hCS hcS).mono ?_
     rintro e w6 ⟨AM,nM,cM,rfl,hb⟩
     refine ⟨_,rfl,?_⟩
     replace HX:=aq (blk_below HX.out hb)
     replace HY:=aq (blk_below HY.out hb)
     replace HRS:=aq (Kd.R_below HRS.out hb)
     replace HBc:=aq (HBc.out.trans (hb.mono HBc.out.size))
     clear hb hCS
     refine hK.out _ _ ⟨(sC HBc.out z0),(sC HBc.out z1),(sC HBc.out z2),(sC HBc.out z3),(sC HBc.out z4),(sC HBc.out z5),(sC HBc.out z6),(sC HBc.out z7)⟩ (fun hHeld => ?_)
     clear hK K
     refine sN ?_
     refine sP (i:=7) (N:=some 9) ?_
     refine sP (i:=8) (N:=some 17) ?_
     refine sP (i:=9) (N:=some 18) ?_
     refine sP (i:=10) (N:=some 19) ?_
     exact norm_ (by simp only [putAll,Act.put,List.setIfInBounds_toArray,List.set_cons_zero,List.set_cons_succ]) (hCont (w4.heap.size,X.heap.size,.slice AS xs.length cS,AM,nM,cM) _ ⟨HX.out,HY.out,HBc.out,HGX.out,HGY.out⟩)
   ·
    skip
    refine value_ (w1:=?_) (v:=?_) (by rfl) rfl ?_ ?_
    rotate_left 2
    ·
     go_simp
     constructor
     ·
      rfl
     ·
      rfl
    have HGX : Aside0 (X.heap.size ≤ X.heap.size + 1):=⟨by have h:=HBc.out.size;first|exact h|(rw [World.size_alloc] at h;exact h)⟩
    have hb : Below (X.alloc (Obj.cells zM 37)).heap.size (X.alloc (Obj.cells zM 37)) ((X.alloc (Obj.cells zM 37)).alloc (Obj.cells zR 25)):=below_alloc (Below.refl _ _) _
    replace HY:=aq (blk_below HY.out hb)
    replace HBc:=aq (HBc.out.trans (hb.mono HBc.out.size))
    have HX : Aside0 (((X.alloc (Obj.cells zM 37)).alloc (Obj.cells zR 25)).heap[X.heap.size + 1]? = some (Obj.cells zR 25 (0,0))):=⟨by have h:=World.alloc_heap_new (X.alloc (Obj.cells zM 37)) (Obj.cells zR 25);first|exact h|(rw [World.size_alloc] at h;exact h)⟩
    clear hb
    refine hK.out _ _ ⟨(sC HBc.out z0),(sC HBc.out z1),(sC HBc.out z2),(sC HBc.out z3),(sC HBc.out z4),(sC HBc.out z5),(sC HBc.out z6),(sC HBc.out z7)⟩ (fun hHeld => ?_)
    clear hK K
    refine sN ?_
    refine sO (i:=4) (N:=some 14) fun K hK => ?_
    refine sG Try.func79 #[.agg (pG A0 l0 c0 A1 l1 c1 a2 a3 a4),.string b0] ?_
    refine (HS.out ((X.alloc (Obj.cells zM 37)).alloc (Obj.cells zR 25)) (HB0.out.trans (HBc.out.mono HS0.out))).mono ?_
    rintro e w4 ⟨vS,rfl,hR,hb⟩
    refine ⟨_,rfl,?_⟩
    replace HX:=aq (blk_below HX.out hb)
    replace HY:=aq (blk_below HY.out hb)
    replace HBc:=aq (HBc.out.trans (hb.mono HBc.out.size))
    have HRS:=aq hR
    clear hb hR
    refine hK.out _ _ ⟨(sC HBc.out z0),(sC HBc.out z1),(sC HBc.out z2),(sC HBc.out z3),(sC HBc.out z4),(sC HBc.out z5),(sC HBc.out z6),(sC HBc.out z7)⟩ (fun hHeld => ?_)
    clear hK K
    refine sN ?_
    refine sO (i:=6) (N:=some 16) fun K hK => ?_
    obtain ⟨AS,cS,rfl,hcS,hCS⟩:=Kd.R_reads HRS.out
    refine sG Try.func81 #[.agg (pG A0 l0 c0 A1 l1 c1 a2 a3 a4),.slice AS xs.length cS,.agg #[.string b0,.string b1,.string b2]] ?_
    refine (HF.out AS cS w4 (HB0.out.trans (HBc.out.mono HS0.out)) hCS hcS).mono ?_
    rintro e w6 ⟨AM,nM,cM,rfl,hb⟩
    refine ⟨_,rfl,?_⟩
    replace HX:=aq (blk_below HX.out hb)
    replace HY:=aq (blk_below HY.out hb)
    replace HRS:=aq (Kd.R_below HRS.out hb)
    replace HBc:=aq (HBc.out.trans (hb.mono HBc.out.size))
    clear hb hCS
    refine hK.out _ _ ⟨(sC HBc.out z0),(sC HBc.out z1),(sC HBc.out z2),(sC HBc.out z3),(sC HBc.out z4),(sC HBc.out z5),(sC HBc.out z6),(sC HBc.out z7)⟩ (fun hHeld => ?_)
    clear hK K
    refine sN ?_
    refine sP (i:=7) (N:=some 9) ?_
    refine sP (i:=8) (N:=some 17) ?_
    refine sP (i:=9) (N:=some 18) ?_
    refine sP (i:=10) (N:=some 19) ?_
    exact norm_ (by simp only [putAll,Act.put,List.setIfInBounds_toArray,List.set_cons_zero,List.set_cons_succ]) (hCont (X.heap.size + 1,X.heap.size,.slice AS xs.length cS,AM,nM,cM) _ ⟨HX.out,HY.out,HBc.out,HGX.out,HGY.out⟩)
 rintro ⟨gx,gy,vS,AM,nM,cM⟩ w7 ⟨hx,hy,hb,hgx,hgy⟩
 replace HBc:=aq hb
 have hHeld : w7.cell? ⟨w.heap.size,0,none⟩ = some (.slice A0 l0.length c0) ∧ w7.cell? ⟨w.heap.size,1,none⟩ = some (.slice A1 l1.length c1) ∧ w7.cell? ⟨w.heap.size,2,none⟩ = some (.string a2) ∧ w7.cell? ⟨w.heap.size,3,none⟩ = some (.string a3) ∧ w7.cell? ⟨w.heap.size,4,none⟩ = some (.string a4) ∧ w7.cell? ⟨w.heap.size + 1,0,none⟩ = some (.string b0) ∧ w7.cell? ⟨w.heap.size + 1,1,none⟩ = some (.string b1) ∧ w7.cell? ⟨w.heap.size + 1,2,none⟩ = some (.string b2):=⟨(sC HBc.out z0),(sC HBc.out z1),(sC HBc.out z2),(sC HBc.out z3),(sC HBc.out z4),(sC HBc.out z5),(sC HBc.out z6),(sC HBc.out z7)⟩
 have HX:=aq hx
 have HY:=aq hy
 have HGX:=aq hgx
 have HGY:=aq hgy
 clear hx hy hb hgx hgy
 obtain ⟨e0,e1,e2⟩:=cells3 HX.out
 have ef:=blk_frozen HX.out
 have hne:=blk_apart HX.out HY.out (by decide)
 refine norm_ (a':=?_) ?_ ?_
 rotate_left
 ·
  simp only [putAll,Act.put,List.setIfInBounds_toArray,List.set_cons_zero,List.set_cons_succ]
  rfl
 refine sO (i:=13) (N:=none) fun K hK => ?_
 refine skip_ (w1:=?_) (by rfl) rfl ?_ ?_
 rotate_left
 ·
  go_simp
  rfl
 have hx8:=set3_own HX.out (.string x0) (.string x1) (.string x2)
 have hy8:=set3_far HY.out hne.symm (.string x0) (.string x1) (.string x2)
 have hb8:=set3_belowA HBc.out HGX.out (.string x0) (.string x1) (.string x2)
 generalize (((w7.setCell ⟨gx,0,none⟩ (.string x0)).setCell ⟨gx,1,none⟩ (.string x1)).setCell ⟨gx,2,none⟩ (.string x2)) = w8 at hx8 hy8 hb8 ⊢
 have HX8:=aq hx8
 have HY8:=aq hy8
 replace HBc:=aq hb8
 clear hx8 hy8 hb8 e0 e1 e2 ef
 obtain ⟨q0,q1,q2,q3,q4,q5⟩:=cells6 HY8.out
 have qf:=blk_frozen HY8.out
 refine hK.out _ _ ⟨(sC HBc.out z0),(sC HBc.out z1),(sC HBc.out z2),(sC HBc.out z3),(sC HBc.out z4),(sC HBc.out z5),(sC HBc.out z6),(sC HBc.out z7)⟩ (fun hHeld => ?_)
 clear hK K
 refine sX (i:=14) (N:=none) fun K hK => ?_
 refine skip_ (w1:=?_) (by rfl) rfl ?_ ?_
 rotate_left
 ·
  go_simp
  rfl
 have hx9:=(set6_far hne (.string y.f0) (.string y.f1) (.bool y.f2) (.bool y.f3) (.int .i64 y.f4) (.slice AM nM cM)).trans HX8.out
 have hy9:=set6_own HY8.out (.string y.f0) (.string y.f1) (.bool y.f2) (.bool y.f3) (.int .i64 y.f4) (.slice AM nM cM)
 have hb9:=set6_belowA HBc.out HGY.out (.string y.f0) (.string y.f1) (.bool y.f2) (.bool y.f3) (.int .i64 y.f4) (.slice AM nM cM)
 generalize ((((((w8.setCell ⟨gy,0,none⟩ (.string y.f0)).setCell ⟨gy,1,none⟩ (.string y.f1)).setCell ⟨gy,2,none⟩ (.bool y.f2)).setCell ⟨gy,3,none⟩ (.bool y.f3)).setCell ⟨gy,4,none⟩ (.int .i64 y.f4)).setCell ⟨gy,5,none⟩ (.slice AM nM cM)) = w9 at hx9 hy9 hb9 ⊢
 have HX9:=aq hx9
 have HY9:=aq hy9
 have HB9:=aq hb9
 clear hx9 hy9 hb9 q0 q1 q2 q3 q4 q5 qf
 refine hK.out _ _ ?_
 clear hK K
 refine sP (i:=15) (N:=some 8) ?_
 refine done_ (by kernel_rfl) ?_
 have HZ9:=aq (blk_below HZ0.out HB9.out)
 have HBW:=aq (HB0.out.trans (HB9.out.mono HS0.out))
 clear hHeld z0 z1 z2 z3 z4 z5 z6 z7
 cases ok
 ·
  skip
  obtain ⟨r0,r1,r2⟩:=cells3 HZ9.out
  have rf:=blk_frozen HZ9.out
  go_wp2_with fail
  exact bodyPost_ret (results_ct rfl _ _ (w.heap.size + 1 + 1) 25 zR (0,0) _ rfl (set3_own HZ9.out _ _ _) Try.underlying25 rfl (by kernel_rfl)) rfl ⟨by rw [← HRR.out];rfl,set3_belowA HBW.out (by omega) _ _ _⟩
 ·
  obtain ⟨k0,k1,k2,k3,k4,k5⟩:=cells6 HY9.out
  obtain ⟨e0,e1,e2⟩:=cells3 HX9.out
  obtain ⟨b,hb⟩ : ∃ b,y.f2 = b:=⟨_,rfl⟩
  rw [hb] at k2 HRR
  clear hb
  cases b
  ·
   skip
   obtain ⟨r0,r1,r2⟩:=cells3 HZ9.out
   have rf:=blk_frozen HZ9.out
   go_wp2_with fail
   exact bodyPost_ret (results_ct rfl _ _ (w.heap.size + 1 + 1) 25 zR (0,0) _ rfl (set3_own HZ9.out _ _ _) Try.underlying25 rfl (by kernel_rfl)) rfl ⟨by rw [← HRR.out];rfl,set3_belowA HBW.out (by omega) _ _ _⟩
  ·
   skip
   obtain ⟨r0,r1,r2⟩:=cells3 HZ9.out
   have rf:=blk_frozen HZ9.out
   go_wp2_with fail
   exact bodyPost_ret (results_ct rfl _ _ (w.heap.size + 1 + 1) 25 #[.string x0,.string x1,.string x2] (0,0) _ rfl (set3_own HZ9.out _ _ _) Try.underlying25 rfl (by kernel_rfl)) rfl ⟨by rw [← HRR.out];rfl,set3_belowA HBW.out (by omega) _ _ _⟩
def sr12_Static.f (l0_0 : List S33) (l0_1 : List ByteArray) (a0_2 a0_3 a0_4 a1_0 a1_1 a1_2 : ByteArray) : Option (ByteArray × ByteArray × ByteArray × Bool) := (sr11_Supers.f l0_0 l0_1 a0_2 a0_3 a0_4 a1_0).bind fun xs => if xs.length ≤ 9223372036854775807 then some (decS l0_0 xs a1_1 a1_2) else none
theorem sr12_Static.calls (A0_0 : Option Addr) (c0_0 : Nat) (l0_0 : List S33) (A0_1 : Option Addr) (c0_1 : Nat) (l0_1 : List ByteArray) (a0_2 : ByteArray) (a0_3 : ByteArray) (a0_4 : ByteArray) (a1_0 : ByteArray) (a1_1 : ByteArray) (a1_2 : ByteArray) (r1 : ByteArray) (r2 : ByteArray) (r3 : ByteArray) (r4 : Bool) (w : World) (hr0_0 : Kd.C k33 w A0_0 l0_0.length l0_0) (hc0_0 : l0_0.length ≤ c0_0) (hr0_1 : Kd.C Kd.string w A0_1 l0_1.length l0_1) (hc0_1 : l0_1.length ≤ c0_1) (h : sr12_Static.f l0_0 l0_1 a0_2 a0_3 a0_4 a1_0 a1_1 a1_2 = some (r1, r2, r3, r4)) :
  Calls Try.prog 51 #[.agg (pG A0_0 l0_0 c0_0 A0_1 l0_1 c0_1 a0_2 a0_3 a0_4),.agg #[.string a1_0,.string a1_1,.string a1_2]] w fun e w' => e = .returned (.tuple #[.agg #[.string r1,.string r2,.string r3],.bool r4]) ∧ Below w.heap.size w w':=by
 unfold sr12_Static.f at h
 obtain ⟨xs,hx,h⟩:=Option.bind_eq_some_iff.1 h
 split at h
 ·
  rename_i hxl
  have hd:=Option.some.inj h
  have hs:=ref_static A0_0 c0_0 l0_0 A0_1 c0_1 l0_1 a0_2 a0_3 a0_4 a1_0 a1_1 a1_2 w hr0_0 hc0_0 hr0_1 hc0_1 xs hx hxl
  rw [hd] at hs
  exact hs
 ·
  cases h
end Go.Proofs.Ytfplcohjnlbfjaa.Hand
end
