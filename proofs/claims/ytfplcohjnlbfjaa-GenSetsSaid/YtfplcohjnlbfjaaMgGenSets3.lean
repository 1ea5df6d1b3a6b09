import Derived.Test.YtfplcohjnlbfjaaMgGenSets1
import Derived.Test.YtfplcohjnlbfjaaMgGenSets2
import Derived.Recover
import Derived.Defers
import Derived.Laws.Pointers
import Derived.BigRegionIn
import Derived.Deep.RegionHeld3
import Derived.Deep.QuietTactic
import Derived.BigQuiet
import Derived.WalkSmall
import Derived.Test.YtfplcohjnlbfjaaProg
import Derived.Below
import Derived.Deep.Draws
import Derived.Deep.AppendLies
import Derived.Maps.AppendAt
import Derived.OwnWalk
import Derived.Laws.BytesArg
import Derived.Laws.MakeOwn
import Derived.Laws.OwnMore
import Derived.Deep.OwnRows
import Derived.Tactics
import Derived.Lib.ConvBytes
import Derived.Laws.Slices
import Derived.WalkKit
import Derived.KernelRfl
import Derived.RowKit3
import Derived.Deep.LoopGhost
import Derived.WideLaws
import Derived.Deep.DeepCutAuto
import Derived.Deep.CutBlock
import Derived.Laws.Rows
import Derived.Lib.AppendStr
import Derived.ArgAppend
import Derived.Laws.IdiomCopy
import Derived.OrdersHeld
import Derived.Laws.BitsLemmas
import Derived.RowKit
import Derived.Test.YtfplcohjnlbfjaaMgGenSets0
set_option linter.unusedVariables false
set_option linter.unusedSimpArgs false
set_option maxHeartbeats 64000000
set_option maxRecDepth 100000
section
namespace Go.Proofs.Ytfplcohjnlbfjaa.Q8
open Go.RowKit Go.Proofs.YtfplcohjnlbfjaaW
open PrintWords PrintLast PrintMore Go.Proofs.Ytfplcohjnlbfjaa.Hand
attribute [local go_sem] max2_int min2_int max_two min_two max_three min_three max_four min_four
mutual
def sr06_Split.j0 : Nat → ByteArray → Bool → Option ((List (S97)) × Int × ByteArray × Int)
  | 0,_,_ => none
  | k + 1,x0,x23 => if x23 = true then (some (([] : List (S97)),0,(⟨#[]⟩ : ByteArray),1)) else (sr06_Split.l0 k x0 ([] : List (S97)) 1)
def sr06_Split.l0 : Nat → ByteArray → List (S97) → Int → Option ((List (S97)) × Int × ByteArray × Int)
  | 0,_,_,_ => none
  | k + 1,x0,x5,x6 => if x6 < (x0.size : Int) then (if 0 ≤ x6 then (sr06_Split.j2 k x0 x5 x6 ((bt x0 x6) != 41)) else (none)) else (sr06_Split.j2 k x0 x5 x6 false)
def sr06_Split.j2 : Nat → ByteArray → List (S97) → Int → Bool → Option ((List (S97)) × Int × ByteArray × Int)
  | 0,_,_,_,_ => none
  | k + 1,x0,x5,x6,x34 => if x34 = true then ((sr06_next.f k x0 x6).bind fun bt111 => (if bt111.2.2.2 = true then (if bt111.1 = 1 then (some (([] : List (S97)),0,(⟨#[]⟩ : ByteArray),1)) else (if x5.length < 5864062014805 then (sr06_Split.l0 k x0 (x5 ++ [(⟨bt111.1,bt111.2.1⟩ : S97)]) bt111.2.2.1) else (none))) else (some (([] : List (S97)),0,(⟨#[]⟩ : ByteArray),1)))) else (if x6 ≥ (x0.size : Int) then (some (([] : List (S97)),0,(⟨#[]⟩ : ByteArray),1)) else (if 0 ≤ (wrap64 (x6 + 1)) then (if (wrap64 (x6 + 1)) ≤ (x0.size : Int) then ((sr06_Parse.f k (x0.extract ((wrap64 (x6 + 1)) : Int).toNat x0.size)).bind fun bt119 => (if bt119.2.2 = 0 then (if (x5.length : Int) > 8 then (some (([] : List (S97)),0,(⟨#[]⟩ : ByteArray),3)) else (some (x5,bt119.1,bt119.2.1,0))) else (some (([] : List (S97)),0,(⟨#[]⟩ : ByteArray),bt119.2.2)))) else (none)) else (none)))
end
def sr06_Split.f (k : Nat) (a0 : ByteArray) : Option ((List (S97)) × Int × ByteArray × Int) := if (a0.size : Int) > 64 then (some (([] : List (S97)), 0, (⟨#[]⟩ : ByteArray), 3)) else (if (a0.size : Int) = 0 then (sr06_Split.j0 k a0 true) else (if 0 < (a0.size : Int) then (sr06_Split.j0 k a0 ((bt a0 0) != 40)) else (none)))
theorem sr06_Split.calls (k : Nat) (a0 : ByteArray) (r1 : List (S97)) (r2 : Int) (r3 : ByteArray) (r4 : Int) (w : World) (h : sr06_Split.f k a0 = some (r1, r2, r3, r4)) :
    Calls Try.prog 48 #[.string a0] w fun e w' => ∃ v0_ : Value,e = .returned (.tuple #[v0_,.agg #[.int .i64 r2,.string r3],.int .i64 r4]) ∧ Kd.R k97 97 w' w.heap.size (fun _ => True) v0_ r1 ∧ Below w.heap.size w w':=by
 have hu97:=Try.underlying97
 have HB:=aq (Below.refl w.heap.size w)
 have H : (if (a0.size : Int) > 64 then (some (([] : List (S97)),0,(⟨#[]⟩ : ByteArray),3)) else (if (a0.size : Int) = 0 then (sr06_Split.j0 k a0 true) else (if 0 < (a0.size : Int) then (sr06_Split.j0 k a0 ((bt a0 0) != 40)) else (none)))) = some (r1,r2,r3,r4):=h
 clear h
 by_cases c2 : (a0.size : Int) > 64
 · rw [if_pos c2] at H
   have c2b0 : decide (64 < (a0.size : Int)) = true:=decide_eq_true c2
   have c2b1 : decide (64 < a0.size) = true:=decide_eq_true (by omega)
   clear c2
   simp only [Option.some.injEq,Prod.mk.injEq] at H
   obtain ⟨rfl,rfl,rfl,rfl⟩:=H
   go_enter Try.func48,Try.ntmps48
   go_wp2_with (first|((with_reducible refine gate_dst (N:=3) rfl ?_);refine box_event rfl (N:=3) rfl (cs:=#[.int .i64 0,.string (⟨#[]⟩ : ByteArray)]) (t:=97) gS ?_;intro gb110 hg w3 hbox hb;have BK110:=aq (hbox);have GE110:=aq ((GN hg : w.heap.size ≤ gb110));replace HB:=aq (below_step bH hb);clear hb hbox hg;have hcz4_0 : w3.cell? ⟨gb110,0,none⟩ = some (.int .i64 0):=(blk_cell BK110.out 0).trans rfl;have hcz4_1 : w3.cell? ⟨gb110,1,none⟩ = some (.string (⟨#[]⟩ : ByteArray)):=(blk_cell BK110.out 1).trans rfl;have hfz4_0:=blk_frozen BK110.out 0;have hfz4_1:=blk_frozen BK110.out 1))
   refine bodyPost_ret (results_list (rs:=[.tmp 2,.cell 3 97,.tmp 4]) rfl (by simp) (.tmp (.cell gb110 97 #[.int .i64 0,.string (⟨#[]⟩ : ByteArray)] (0,0) _ rfl (by refine KU ?_;refine blk_put (cs:=#[.int .i64 0,.string (⟨#[]⟩ : ByteArray)]) ?_ 1 _ rfl;refine KU ?_;refine blk_put (cs:=#[.int .i64 0,.string (⟨#[]⟩ : ByteArray)]) ?_ 0 _ rfl;refine KU ?_;exact BK110.out) Try.underlying97 rfl (by kernel_rfl) (.tmp .nil)))) rfl ?_
   exact ⟨_,eR,by first|exact Kd.R_nil _ _ _ _ _|exact Kd.N_nil _ _ _ _ _|exact Kd.V_nil _ _ _ _ _|exact Kd.Q_nil _ _ _ _ _|exact Kd.S_nil _ _ _ _ _,bH⟩
 rw [if_neg c2] at H
 have c2b0 : decide (64 < (a0.size : Int)) = false:=decide_eq_false c2
 have c2b1 : decide (64 < a0.size) = false:=decide_eq_false (by omega)
 clear c2
 have HC5:=aq H
 clear H
 go_enter Try.func48,Try.ntmps48
 go_upto_region 3 with (first|((with_reducible refine gate_dst (N:=3) rfl ?_);refine box_event rfl (N:=3) rfl (cs:=#[.int .i64 0,.string (⟨#[]⟩ : ByteArray)]) (t:=97) gS ?_;intro gb110 hg w6 hbox hb;have BK110:=aq (hbox);have GE110:=aq ((GN hg : w.heap.size ≤ gb110));replace HB:=aq (below_step bH hb);clear hb hbox hg))
 (try simp only [Act.put,List.setIfInBounds_toArray,List.set_cons_zero,List.set_cons_succ])
 go_cut [23] (fun v23 wc => ∃ (kq : Nat) (x23_4 : Bool),v23 = .bool x23_4 ∧ Aside0 (sr06_Split.j0 kq a0 x23_4 = some (r1,r2,r3,r4)) ∧ Aside0 (kq ≤ k) ∧ Aside0 (wc.heap[gb110]? = some (.cells #[.int .i64 0,.string (⟨#[]⟩ : ByteArray)] 97 (0,0))) ∧ Aside0 (Below w.heap.size w wc))
 case first =>
  have H:=HC5.out
  clear HC5
  by_cases c7 : (a0.size : Int) = 0
  · rw [if_pos c7] at H
    have c7b0 : ((a0.size : Int) == 0) = true:=beq_iff_eq.mpr c7
    have c7b1 : ((a0.size : Int) != 0) = false:=bne_eq_false_iff_eq.mpr c7
    clear c7
    (first|rw [c7b0]|rw [c7b1]|(simp only [i64_w,i32_w];rw [c7b0])|skip)
    have H':=aq H
    clear H
    go_wp2
    go_meet
    case rel => exact ⟨_,(true),eS,H',⟨by first|omega|exact Nat.le_refl _⟩,⟨KU BK110.out⟩,⟨bH⟩⟩
  rw [if_neg c7] at H
  have c7b0 : ((a0.size : Int) == 0) = false:=beq_eq_false_iff_ne.mpr c7
  have c7b1 : ((a0.size : Int) != 0) = true:=bne_iff_ne.mpr c7
  (first|rw [c7b0]|rw [c7b1]|(simp only [i64_w,i32_w];rw [c7b0])|skip)
  by_cases c8 : 0 < (a0.size : Int)
  rotate_left
  · rw [if_neg c8] at H
    exact absurd H (by simp)
  rw [if_pos c8] at H
  have c8b0 : decide (0 < (a0.size : Int)) = true:=decide_eq_true c8
  have c8b1 : decide (0 < a0.size) = true:=decide_eq_true (by omega)
  clear c8
  have H':=aq H
  clear H
  have p9 : 0 ≤ (0 : Int):=(by omega)
  have q9 : 0 < a0.size:=(by have : (0 : Int) < (a0.size : Int):=of_decide_eq_true aS;omega)
  have hx9 : ∀ h : 0 < a0.size,((a0[0]'h).toNat : Int) = bt a0 0:=bt_at a0 0
  clear p9
  have qi9 : (0 < (a0.size : Int)) = True:=eq_true (of_decide_eq_true aS)
  replace q9:=eq_true q9
  go_wp2
  go_meet
  case rel => exact ⟨_,(((bt a0 0) != 40)),eS,H',⟨by first|omega|exact Nat.le_refl _⟩,⟨KU BK110.out⟩,⟨bH⟩⟩
 case rest =>
 clear HC5
 (try clear c2);(try clear c2b0);(try clear c2b1)
 obtain ⟨kq,x23_4,rfl,HA,HJ4,BK110,HB⟩:=hcut
 cases kq with
 | zero => exact absurd HA.out (by simp [sr06_Split.j0])
 | succ kj4 =>
 have H:=HA.out
 clear HA
 simp only [sr06_Split.j0] at H
 by_cases c10 : x23_4 = true
 · subst c10
   have H1 : (some (([] : List (S97)),0,(⟨#[]⟩ : ByteArray),1)) = some (r1,r2,r3,r4):=by rw [if_pos rfl] at H;exact H
   clear H
   have H:=H1
   clear H1
   simp only [Option.some.injEq,Prod.mk.injEq] at H
   obtain ⟨rfl,rfl,rfl,rfl⟩:=H
   have hcz11_0 : wc.cell? ⟨gb110,0,none⟩ = some (.int .i64 0):=(blk_cell BK110.out 0).trans rfl
   have hcz11_1 : wc.cell? ⟨gb110,1,none⟩ = some (.string (⟨#[]⟩ : ByteArray)):=(blk_cell BK110.out 1).trans rfl
   have hfz11_0:=blk_frozen BK110.out 0
   have hfz11_1:=blk_frozen BK110.out 1
   go_wp2
   refine bodyPost_ret (results_list (rs:=[.tmp 2,.cell 3 97,.tmp 4]) rfl (by simp) (.tmp (.cell gb110 97 #[.int .i64 0,.string (⟨#[]⟩ : ByteArray)] (0,0) _ rfl (by refine KU ?_;refine blk_put (cs:=#[.int .i64 0,.string (⟨#[]⟩ : ByteArray)]) ?_ 1 _ rfl;refine KU ?_;refine blk_put (cs:=#[.int .i64 0,.string (⟨#[]⟩ : ByteArray)]) ?_ 0 _ rfl;refine KU ?_;exact BK110.out) Try.underlying97 rfl (by kernel_rfl) (.tmp .nil)))) rfl ?_
   exact ⟨_,eR,by first|exact Kd.R_nil _ _ _ _ _|exact Kd.N_nil _ _ _ _ _|exact Kd.V_nil _ _ _ _ _|exact Kd.Q_nil _ _ _ _ _|exact Kd.S_nil _ _ _ _ _,bH⟩
 replace c10:=Bool.eq_false_iff.mpr c10
 subst c10
 have H1 : (sr06_Split.l0 kj4 a0 ([] : List (S97)) 1) = some (r1,r2,r3,r4):=by rw [if_neg (show ¬ (false = true) by decide)] at H;exact H
 clear H
 have H:=H1
 clear H1
 have H':=aq H
 clear H
 go_wp2
 go_loopg [5,6] kj4 (fun kq v5 v6 w' => ∃ (x5_2 : List (S97)) (x6_2 : Int) (x111000_2 : Int) (x111001_2 : ByteArray),v6 = .int .i64 x6_2 ∧ Aside0 (sr06_Split.l0 kq a0 x5_2 x6_2 = some (r1,r2,r3,r4)) ∧ Aside0 (kq ≤ kj4) ∧ Aside0 (Kd.R k97 97 w' w.heap.size (fun k_ => k_ ≠ gb110) v5 x5_2) ∧ Aside0 (w'.heap[gb110]? = some (.cells #[.int .i64 x111000_2,.string x111001_2] 97 (0,0))) ∧ Aside0 (Below w.heap.size w w'))
 case atStart => exact ⟨(([] : List (S97))),(1),(0),((⟨#[]⟩ : ByteArray)),eS,H',⟨Nat.le_refl _⟩,⟨by first|exact Kd.R_nil _ _ _ _ _|exact Kd.N_nil _ _ _ _ _|exact Kd.V_nil _ _ _ _ _|exact Kd.Q_nil _ _ _ _ _|exact Kd.S_nil _ _ _ _ _⟩,⟨KU BK110.out⟩,⟨bH⟩⟩
 case round =>
 clear H'
 (try clear c2);(try clear c2b0);(try clear c2b1);(try clear c10)
 obtain ⟨x5_2,x6_2,x111000_2,x111001_2,rfl,HA,HK2,HO_5,BK110,HB⟩:=hrel
 cases gk with
 | zero => exact absurd HA.out (by simp [sr06_Split.l0])
 | succ k2 =>
 have H:=HA.out
 clear HA
 simp only [sr06_Split.l0] at H
 have HC12:=aq H
 clear H
 go_upto_region 7 with (fail)
 go_cut [34] (fun v34 wc => ∃ (kq : Nat) (x34_11 : Bool),v34 = .bool x34_11 ∧ Aside0 (sr06_Split.j2 kq a0 x5_2 x6_2 x34_11 = some (r1,r2,r3,r4)) ∧ Aside0 (kq ≤ k2) ∧ Aside0 (Kd.R k97 97 wc w.heap.size (fun k_ => k_ ≠ gb110) u5 x5_2) ∧ Aside0 (wc.heap[gb110]? = some (.cells #[.int .i64 x111000_2,.string x111001_2] 97 (0,0))) ∧ Aside0 (Below w.heap.size w wc))
 case first =>
  have H:=HC12.out
  clear HC12
  by_cases c13 : x6_2 < (a0.size : Int)
  rotate_left
  · rw [if_neg c13] at H
    have c13b0 : decide (x6_2 < (a0.size : Int)) = false:=decide_eq_false c13
    clear c13
    (first|rw [c13b0]|rw [c13b1]|(simp only [i64_w,i32_w];rw [c13b0])|skip)
    have H':=aq H
    clear H
    go_wp2
    go_meet
    case rel => exact ⟨_,(false),eS,H',⟨by have:=HJ4.out;have:=HK2.out;first|omega|exact Nat.le_refl _⟩,⟨by (with_reducible repeat (first|apply Kd.R_alloc|apply Kd.R_drewN|apply Kd.R_drew));exact HO_5.out⟩,⟨KU BK110.out⟩,⟨bH⟩⟩
  rw [if_pos c13] at H
  have c13b0 : decide (x6_2 < (a0.size : Int)) = true:=decide_eq_true c13
  clear c13
  (first|rw [c13b0]|rw [c13b1]|(simp only [i64_w,i32_w];rw [c13b0])|skip)
  by_cases c14 : 0 ≤ x6_2
  rotate_left
  · rw [if_neg c14] at H
    exact absurd H (by simp)
  rw [if_pos c14] at H
  have c14b0 : decide (0 ≤ x6_2) = true:=decide_eq_true c14
  clear c14
  have H':=aq H
  clear H
  have p15 : 0 ≤ (x6_2 : Int):=of_decide_eq_true aS
  have q15 : x6_2 < (a0.size : Int):=of_decide_eq_true aS
  have hx15:=bt_at a0 x6_2
  replace p15:=eq_true p15
  replace q15:=eq_true q15
  go_wp2
  go_meet
  case rel => exact ⟨_,(((bt a0 x6_2) != 41)),eS,H',⟨by have:=HJ4.out;have:=HK2.out;first|omega|exact Nat.le_refl _⟩,⟨by (with_reducible repeat (first|apply Kd.R_alloc|apply Kd.R_drewN|apply Kd.R_drew));exact HO_5.out⟩,⟨KU BK110.out⟩,⟨bH⟩⟩
 case rest =>
 clear HC12
 (try clear c2);(try clear c2b0);(try clear c2b1);(try clear c10)
 obtain ⟨kq,x34_11,rfl,HA,HJ11,HO_5,BK110,HB⟩:=hcut
 cases kq with
 | zero => exact absurd HA.out (by simp [sr06_Split.j2])
 | succ kj11 =>
 have H:=HA.out
 clear HA
 simp only [sr06_Split.j2] at H
 by_cases c16 : x34_11 = true
 · subst c16
   have H1 : ((sr06_next.f kj11 a0 x6_2).bind fun bt111 => (if bt111.2.2.2 = true then (if bt111.1 = 1 then (some (([] : List (S97)),0,(⟨#[]⟩ : ByteArray),1)) else (if x5_2.length < 5864062014805 then (sr06_Split.l0 kj11 a0 (x5_2 ++ [(⟨bt111.1,bt111.2.1⟩ : S97)]) bt111.2.2.1) else (none))) else (some (([] : List (S97)),0,(⟨#[]⟩ : ByteArray),1)))) = some (r1,r2,r3,r4):=by rw [if_pos rfl] at H;exact H
   clear H
   have H:=H1
   clear H1
   replace H:=Option.bind_eq_some_iff.mp H
   obtain ⟨⟨t111,t112,t113,t114⟩,A170,H⟩:=H
   replace H : (if t114 = true then (if t111 = 1 then (some (([] : List (S97)),0,(⟨#[]⟩ : ByteArray),1)) else (if x5_2.length < 5864062014805 then (sr06_Split.l0 kj11 a0 (x5_2 ++ [(⟨t111,t112⟩ : S97)]) t113) else (none))) else (some (([] : List (S97)),0,(⟨#[]⟩ : ByteArray),1))) = some (r1,r2,r3,r4):=H
   have A17:=aq A170
   clear A170
   by_cases c18 : t114 = true
   rotate_left
   · replace c18:=Bool.eq_false_iff.mpr c18
     subst c18
     have H1 : (some (([] : List (S97)),0,(⟨#[]⟩ : ByteArray),1)) = some (r1,r2,r3,r4):=by rw [if_neg (show ¬ (false = true) by decide)] at H;exact H
     clear H
     have H:=H1
     clear H1
     simp only [Option.some.injEq,Prod.mk.injEq] at H
     obtain ⟨rfl,rfl,rfl,rfl⟩:=H
     go_wp2_with (first|((with_reducible refine gate_callee (f:=77) rfl ?_);refine goesL_ (some 38) rfl rfl Try.func77 (by kernel_rfl) rfl #[.string a0,.int .i64 x6_2] rfl eA ?_;(with_reducible refine (sr06_next.calls kj11 a0 x6_2 t111 t112 t113 false _ A17.out).mono ?_);rintro e w31 ⟨rfl,hb⟩;refine ⟨_,rfl,?_⟩;replace HO_5:=RN HO_5 hb;replace BK110:=KN BK110 hb;replace HB:=aq (below_step bH hb);(try clear hb);(try clear hb2);(try clear hk);(try clear hi))|((with_reducible refine gate_dst (N:=7) rfl ?_);refine box_event rfl (N:=7) rfl (cs:=#[.int .i64 0,.string (⟨#[]⟩ : ByteArray)]) (t:=97) gS ?_;intro gb115 hg w32 hbox hb;have BK115:=aq (hbox);have GE115:=aq ((GN hg : w.heap.size ≤ gb115));have NB110_115:=aq (NL hg BK110);have NB115_110:=aq (NG hg BK110);replace HO_5:=aq (Kd.R_below (Kd.R_elderB (RU HO_5.out) gb115 (Nat.le_of_eq hg.symm)) hb);replace BK110:=KN BK110 hb;replace HB:=aq (below_step bH hb);clear hb hbox hg;have hnb33:=NB115_110.out;have hnc33:=NB110_115.out;have hcz34_0 : w32.cell? ⟨gb115,0,none⟩ = some (.int .i64 0):=(blk_cell BK115.out 0).trans rfl;have hcz34_1 : w32.cell? ⟨gb115,1,none⟩ = some (.string (⟨#[]⟩ : ByteArray)):=(blk_cell BK115.out 1).trans rfl;have hfz34_0:=blk_frozen BK115.out 0;have hfz34_1:=blk_frozen BK115.out 1;have hcz35_0 : w32.cell? ⟨gb110,0,none⟩ = some (.int .i64 x111000_2):=(blk_cell BK110.out 0).trans rfl;have hcz35_1 : w32.cell? ⟨gb110,1,none⟩ = some (.string x111001_2):=(blk_cell BK110.out 1).trans rfl;have hfz35_0:=blk_frozen BK110.out 0;have hfz35_1:=blk_frozen BK110.out 1))
     refine bodyPost_ret (results_list (rs:=[.tmp 2,.cell 3 97,.tmp 4]) rfl (by simp) (.tmp (.cell gb110 97 #[.int .i64 0,.string (⟨#[]⟩ : ByteArray)] (0,0) _ rfl (by refine KU ?_;refine blk_put (cs:=#[.int .i64 0,.string x111001_2]) ?_ 1 _ rfl;refine KU ?_;refine blk_put (cs:=#[.int .i64 x111000_2,.string x111001_2]) ?_ 0 _ rfl;refine KU ?_;refine blk_far ?_ NB110_115.out _;refine KU ?_;refine blk_far ?_ NB110_115.out _;refine KU ?_;exact BK110.out) Try.underlying97 rfl (by kernel_rfl) (.tmp .nil)))) rfl ?_
     exact ⟨_,eR,by first|exact Kd.R_nil _ _ _ _ _|exact Kd.N_nil _ _ _ _ _|exact Kd.V_nil _ _ _ _ _|exact Kd.Q_nil _ _ _ _ _|exact Kd.S_nil _ _ _ _ _,bH⟩
   subst c18
   have H1 : (if t111 = 1 then (some (([] : List (S97)),0,(⟨#[]⟩ : ByteArray),1)) else (if x5_2.length < 5864062014805 then (sr06_Split.l0 kj11 a0 (x5_2 ++ [(⟨t111,t112⟩ : S97)]) t113) else (none))) = some (r1,r2,r3,r4):=by rw [if_pos rfl] at H;exact H
   clear H
   have H:=H1
   clear H1
   by_cases c19 : t111 = 1
   · rw [if_pos c19] at H
     have c19b0 : (t111 == 1) = true:=beq_iff_eq.mpr c19
     have c19b1 : (t111 != 1) = false:=bne_eq_false_iff_eq.mpr c19
     clear c19
     simp only [Option.some.injEq,Prod.mk.injEq] at H
     obtain ⟨rfl,rfl,rfl,rfl⟩:=H
     go_wp2_with (first|((with_reducible refine gate_callee (f:=77) rfl ?_);refine goesL_ (some 38) rfl rfl Try.func77 (by kernel_rfl) rfl #[.string a0,.int .i64 x6_2] rfl eA ?_;(with_reducible refine (sr06_next.calls kj11 a0 x6_2 t111 t112 t113 true _ A17.out).mono ?_);rintro e w20 ⟨rfl,hb⟩;refine ⟨_,rfl,?_⟩;replace HO_5:=RN HO_5 hb;replace BK110:=KN BK110 hb;replace HB:=aq (below_step bH hb);(try clear hb);(try clear hb2);(try clear hk);(try clear hi))|((with_reducible refine gate_dst (N:=7) rfl ?_);refine box_event rfl (N:=7) rfl (cs:=#[.int .i64 0,.string (⟨#[]⟩ : ByteArray)]) (t:=97) gS ?_;intro gb115 hg w21 hbox hb;have BK115:=aq (hbox);have GE115:=aq ((GN hg : w.heap.size ≤ gb115));have NB110_115:=aq (NL hg BK110);have NB115_110:=aq (NG hg BK110);replace HO_5:=aq (Kd.R_below (Kd.R_elderB (RU HO_5.out) gb115 (Nat.le_of_eq hg.symm)) hb);replace BK110:=KN BK110 hb;replace HB:=aq (below_step bH hb);clear hb hbox hg;have hnb22:=NB115_110.out;have hnc22:=NB110_115.out;have hcz23_0 : w21.cell? ⟨gb115,0,none⟩ = some (.int .i64 0):=(blk_cell BK115.out 0).trans rfl;have hcz23_1 : w21.cell? ⟨gb115,1,none⟩ = some (.string (⟨#[]⟩ : ByteArray)):=(blk_cell BK115.out 1).trans rfl;have hfz23_0:=blk_frozen BK115.out 0;have hfz23_1:=blk_frozen BK115.out 1;have hcz24_0 : w21.cell? ⟨gb110,0,none⟩ = some (.int .i64 x111000_2):=(blk_cell BK110.out 0).trans rfl;have hcz24_1 : w21.cell? ⟨gb110,1,none⟩ = some (.string x111001_2):=(blk_cell BK110.out 1).trans rfl;have hfz24_0:=blk_frozen BK110.out 0;have hfz24_1:=blk_frozen BK110.out 1))
     refine bodyPost_ret (results_list (rs:=[.tmp 2,.cell 3 97,.tmp 4]) rfl (by simp) (.tmp (.cell gb110 97 #[.int .i64 0,.string (⟨#[]⟩ : ByteArray)] (0,0) _ rfl (by refine KU ?_;refine blk_put (cs:=#[.int .i64 0,.string x111001_2]) ?_ 1 _ rfl;refine KU ?_;refine blk_put (cs:=#[.int .i64 x111000_2,.string x111001_2]) ?_ 0 _ rfl;refine KU ?_;refine blk_far ?_ NB110_115.out _;refine KU ?_;refine blk_far ?_ NB110_115.out _;refine KU ?_;exact BK110.out) Try.underlying97 rfl (by kernel_rfl) (.tmp .nil)))) rfl ?_
     exact ⟨_,eR,by first|exact Kd.R_nil _ _ _ _ _|exact Kd.N_nil _ _ _ _ _|exact Kd.V_nil _ _ _ _ _|exact Kd.Q_nil _ _ _ _ _|exact Kd.S_nil _ _ _ _ _,bH⟩
   rw [if_neg c19] at H
   have c19b0 : (t111 == 1) = false:=beq_eq_false_iff_ne.mpr c19
   have c19b1 : (t111 != 1) = true:=bne_iff_ne.mpr c19
   by_cases c25 : x5_2.length < 5864062014805
   rotate_left
   · rw [if_neg c25] at H
     exact absurd H (by simp)
   rw [if_pos c25] at H
   have LMc25:=aq c25
   clear c25
   obtain ⟨y116,hy116⟩ : ∃ y_ : List (S97),y_ = (x5_2 ++ [(⟨t111,t112⟩ : S97)]):=⟨_,rfl⟩
   replace H : (sr06_Split.l0 kj11 a0 y116 t113) = some (r1,r2,r3,r4):=by first|(rw [hy116];with_reducible exact H)|(have H2_:=(Option.bind_some _ _).symm.trans H;rw [hy116];with_reducible exact H2_)|(have H2_:=(Option.bind_some _ _).symm.trans H;with_reducible exact H2_)|with_reducible exact H|(rw [hy116];exact H)|exact H
   have Ny116:=aq hy116
   clear hy116
   have H':=aq H
   clear H
   go_wp2_with (first|((with_reducible refine gate_callee (f:=77) rfl ?_);refine goesL_ (some 38) rfl rfl Try.func77 (by kernel_rfl) rfl #[.string a0,.int .i64 x6_2] rfl eA ?_;(with_reducible refine (sr06_next.calls kj11 a0 x6_2 t111 t112 t113 true _ A17.out).mono ?_);rintro e w26 ⟨rfl,hb⟩;refine ⟨_,rfl,?_⟩;replace HO_5:=RN HO_5 hb;replace BK110:=KN BK110 hb;replace HB:=aq (below_step bH hb);(try clear hb);(try clear hb2);(try clear hk);(try clear hi))|((with_reducible refine gate_dst (N:=7) rfl ?_);refine box_event rfl (N:=7) rfl (cs:=#[.int .i64 0,.string (⟨#[]⟩ : ByteArray)]) (t:=97) gS ?_;intro gb115 hg w27 hbox hb;have BK115:=aq (hbox);have GE115:=aq ((GN hg : w.heap.size ≤ gb115));have NB110_115:=aq (NL hg BK110);have NB115_110:=aq (NG hg BK110);replace HO_5:=aq (Kd.R_below (Kd.R_elderB (RU HO_5.out) gb115 (Nat.le_of_eq hg.symm)) hb);replace BK110:=KN BK110 hb;replace HB:=aq (below_step bH hb);clear hb hbox hg;have hnb28:=NB115_110.out;have hnc28:=NB110_115.out;have hcz29_0 : w27.cell? ⟨gb115,0,none⟩ = some (.int .i64 0):=(blk_cell BK115.out 0).trans rfl;have hcz29_1 : w27.cell? ⟨gb115,1,none⟩ = some (.string (⟨#[]⟩ : ByteArray)):=(blk_cell BK115.out 1).trans rfl;have hfz29_0:=blk_frozen BK115.out 0;have hfz29_1:=blk_frozen BK115.out 1)|((with_reducible refine gate_builtin (b:=.append) (xs:=#[.tmp 50,.tmp 52]) rfl ?_);at_builtin;refine Kd.R_append k97 (w0:=w) w.heap.size rfl (.tmp 50) (.tmp 52) 94 97 (.agg #[(.int .i64 0),(.string ⟨#[]⟩)]) 24 rfl Try.underlying94 info97 rfl (by decide) (by omega) u5 x5_2 (⟨t111,t112⟩ : S97) [.int .i64 t111,.string t112] (fun k_ => k_ ≠ gb110 ∧ k_ ≠ gb115) (fun _ => False) rfl (by first|(go_simp;done)|(go_simp;rfl)) ?aP (fun _ hk => hk.elim) ?aF ?aO ?aB ?aS ?aL ?_;(case aP => exact k97_mkM _ _ _ (⟨t111,t112⟩ : S97));(case aB => exact bH);(case aF => exact (fun k_ hk => ⟨Kd.freshB (g:=gb110) (o:=.cells #[.int .i64 x111000_2,.string x111001_2] 97 (0,0)) (by refine KU ?_;refine blk_far ?_ NB110_115.out _;refine KU ?_;refine blk_far ?_ NB110_115.out _;refine KU ?_;exact BK110.out) k_ hk,Kd.freshB (g:=gb115) (o:=.cells #[.int .i64 t111,.string t112] 97 (0,0)) (by refine KU ?_;refine blk_put (cs:=#[.int .i64 t111,.string (⟨#[]⟩ : ByteArray)]) ?_ 1 _ rfl;refine KU ?_;refine blk_put (cs:=#[.int .i64 0,.string (⟨#[]⟩ : ByteArray)]) ?_ 0 _ rfl;refine KU ?_;exact BK115.out) k_ hk⟩));(case aO => exact (by (with_reducible repeat (first|apply Kd.R_alloc|apply Kd.R_drewN|apply Kd.R_drew));exact Kd.R_mono (RF gb115 1 (RF gb115 0 (Kd.R_mono HO_5.out (fun k_ hk => (⟨hk,hk.2⟩ : _ ∧ k_ ≠ gb115))) (.int .i64 t111)) (.string t112)) (fun _ hk => ⟨hk.1.1,hk.1.2⟩)));(case aS => exact (below_size bH));(case aL => have:=LMc25.out;omega);intro v117 w30 ho hb hg hat;rw [← Ny116.out] at ho;have n0_:=aq (blk_grown (g:=gb110) (o:=.cells #[.int .i64 x111000_2,.string x111001_2] 97 (0,0)) (by refine KU ?_;refine blk_far ?_ NB110_115.out _;refine KU ?_;refine blk_far ?_ NB110_115.out _;refine KU ?_;exact BK110.out) hg (Kd.R_away HO_5.out (fun _ hk => hk.1)));have n1_:=aq (blk_grown (g:=gb115) (o:=.cells #[.int .i64 t111,.string t112] 97 (0,0)) (by refine KU ?_;refine blk_put (cs:=#[.int .i64 t111,.string (⟨#[]⟩ : ByteArray)]) ?_ 1 _ rfl;refine KU ?_;refine blk_put (cs:=#[.int .i64 0,.string (⟨#[]⟩ : ByteArray)]) ?_ 0 _ rfl;refine KU ?_;exact BK115.out) hg (Kd.R_away HO_5.out (fun _ hk => hk.2)));have n2_:=aq (hb);have n3_:=aq (ho);clear BK110;clear BK115;clear HB;clear HO_5;have BK110:=n0_;have BK115:=n1_;have HB:=n2_;have HO118:=n3_;clear n0_ n1_ n2_ n3_;clear ho hb hg hat))
   go_roundg kj11
   case measure => have:=HJ4.out;have:=HK2.out;have:=HJ11.out;omega
   case rel => exact ⟨(y116),(t113),(x111000_2),(x111001_2),eS,H',⟨by have:=HJ4.out;have:=HK2.out;have:=HJ11.out;omega⟩,⟨by (with_reducible repeat (first|apply Kd.R_alloc|apply Kd.R_drewN|apply Kd.R_drew));exact Kd.R_mono HO118.out (fun _ hk => hk.1)⟩,⟨KU BK110.out⟩,⟨bH⟩⟩
 replace c16:=Bool.eq_false_iff.mpr c16
 subst c16
 have H1 : (if x6_2 ≥ (a0.size : Int) then (some (([] : List (S97)),0,(⟨#[]⟩ : ByteArray),1)) else (if 0 ≤ (wrap64 (x6_2 + 1)) then (if (wrap64 (x6_2 + 1)) ≤ (a0.size : Int) then ((sr06_Parse.f kj11 (a0.extract ((wrap64 (x6_2 + 1)) : Int).toNat a0.size)).bind fun bt119 => (if bt119.2.2 = 0 then (if (x5_2.length : Int) > 8 then (some (([] : List (S97)),0,(⟨#[]⟩ : ByteArray),3)) else (some (x5_2,bt119.1,bt119.2.1,0))) else (some (([] : List (S97)),0,(⟨#[]⟩ : ByteArray),bt119.2.2)))) else (none)) else (none))) = some (r1,r2,r3,r4):=by rw [if_neg (show ¬ (false = true) by decide)] at H;exact H
 clear H
 have H:=H1
 clear H1
 by_cases c36 : x6_2 ≥ (a0.size : Int)
 · rw [if_pos c36] at H
   have c36b0 : decide ((a0.size : Int) ≤ x6_2) = true:=decide_eq_true c36
   clear c36
   simp only [Option.some.injEq,Prod.mk.injEq] at H
   obtain ⟨rfl,rfl,rfl,rfl⟩:=H
   have hcz37_0 : wc.cell? ⟨gb110,0,none⟩ = some (.int .i64 x111000_2):=(blk_cell BK110.out 0).trans rfl
   have hcz37_1 : wc.cell? ⟨gb110,1,none⟩ = some (.string x111001_2):=(blk_cell BK110.out 1).trans rfl
   have hfz37_0:=blk_frozen BK110.out 0
   have hfz37_1:=blk_frozen BK110.out 1
   go_wp2
   refine bodyPost_ret (results_list (rs:=[.tmp 2,.cell 3 97,.tmp 4]) rfl (by simp) (.tmp (.cell gb110 97 #[.int .i64 0,.string (⟨#[]⟩ : ByteArray)] (0,0) _ rfl (by refine KU ?_;refine blk_put (cs:=#[.int .i64 0,.string x111001_2]) ?_ 1 _ rfl;refine KU ?_;refine blk_put (cs:=#[.int .i64 x111000_2,.string x111001_2]) ?_ 0 _ rfl;refine KU ?_;exact BK110.out) Try.underlying97 rfl (by kernel_rfl) (.tmp .nil)))) rfl ?_
   exact ⟨_,eR,by first|exact Kd.R_nil _ _ _ _ _|exact Kd.N_nil _ _ _ _ _|exact Kd.V_nil _ _ _ _ _|exact Kd.Q_nil _ _ _ _ _|exact Kd.S_nil _ _ _ _ _,bH⟩
 rw [if_neg c36] at H
 have c36b0 : decide ((a0.size : Int) ≤ x6_2) = false:=decide_eq_false c36
 clear c36
 obtain ⟨ji38,hji38⟩ : ∃ j_ : Int,(wrap64 (x6_2 + 1)) = j_:=⟨_,rfl⟩
 replace H : (if 0 ≤ (ji38) then (if (ji38) ≤ (a0.size : Int) then ((sr06_Parse.f kj11 (a0.extract ((ji38) : Int).toNat a0.size)).bind fun bt119 => (if bt119.2.2 = 0 then (if (x5_2.length : Int) > 8 then (some (([] : List (S97)),0,(⟨#[]⟩ : ByteArray),3)) else (some (x5_2,bt119.1,bt119.2.1,0))) else (some (([] : List (S97)),0,(⟨#[]⟩ : ByteArray),bt119.2.2)))) else (none)) else (none)) = some (r1,r2,r3,r4):=by first|(rw [hji38] at H;exact H)|(simp only [hji38] at H ⊢;exact H)
 have hji38w : (IntKind.i64.wrap (x6_2 + 1)) = ji38:=(i64_w _).trans hji38
 by_cases c39 : 0 ≤ (ji38)
 rotate_left
 · rw [if_neg c39] at H
   exact absurd H (by simp)
 rw [if_pos c39] at H
 have c39b0:=eq_true c39
 have c39b1 : decide (0 ≤ (ji38)) = true:=decide_eq_true c39
 clear c39
 by_cases c40 : (ji38) ≤ (a0.size : Int)
 rotate_left
 · rw [if_neg c40] at H
   exact absurd H (by simp)
 rw [if_pos c40] at H
 have c40b0:=eq_true c40
 have c40b1 : decide ((ji38) ≤ (a0.size : Int)) = true:=decide_eq_true c40
 clear c40
 replace H:=Option.bind_eq_some_iff.mp H
 obtain ⟨⟨t119,t120,t121⟩,A410,H⟩:=H
 replace H : (if t121 = 0 then (if (x5_2.length : Int) > 8 then (some (([] : List (S97)),0,(⟨#[]⟩ : ByteArray),3)) else (some (x5_2,t119,t120,0))) else (some (([] : List (S97)),0,(⟨#[]⟩ : ByteArray),t121))) = some (r1,r2,r3,r4):=H
 have A41:=aq A410
 clear A410
 by_cases c42 : t121 = 0
 rotate_left
 · rw [if_neg c42] at H
   have c42b0 : (t121 == 0) = false:=beq_eq_false_iff_ne.mpr c42
   have c42b1 : (t121 != 0) = true:=bne_iff_ne.mpr c42
   simp only [Option.some.injEq,Prod.mk.injEq] at H
   obtain ⟨rfl,rfl,rfl,rfl⟩:=H
   go_wp2_with (first|((with_reducible refine gate_callee (f:=78) rfl ?_);refine goesL_ (some 65) rfl rfl Try.func78 (by kernel_rfl) rfl #[.string (a0.extract ((ji38) : Int).toNat a0.size)] rfl (by (try simp only [List.map_toArray,List.map_cons,List.map_nil]);first|done|(simp only [hji38];rfl)|rfl|(simp only [List.length_drop,List.length_take];rfl)) ?_;(with_reducible refine (sr06_Parse.calls kj11 (a0.extract ((ji38) : Int).toNat a0.size) t119 t120 t121 _ A41.out).mono ?_);rintro e w59 ⟨rfl,hb⟩;refine ⟨_,rfl,?_⟩;replace HO_5:=RN HO_5 hb;replace BK110:=KN BK110 hb;replace HB:=aq (below_step bH hb);(try clear hb);(try clear hb2);(try clear hk);(try clear hi))|((with_reducible refine gate_dst (N:=10) rfl ?_);refine box_event rfl (N:=10) rfl (cs:=#[.int .i64 0,.string (⟨#[]⟩ : ByteArray)]) (t:=97) gS ?_;intro gb122 hg w60 hbox hb;have BK122:=aq (hbox);have GE122:=aq ((GN hg : w.heap.size ≤ gb122));have NB110_122:=aq (NL hg BK110);have NB122_110:=aq (NG hg BK110);replace HO_5:=aq (Kd.R_below (Kd.R_elderB (RU HO_5.out) gb122 (Nat.le_of_eq hg.symm)) hb);replace BK110:=KN BK110 hb;replace HB:=aq (below_step bH hb);clear hb hbox hg;have hnb61:=NB122_110.out;have hnc61:=NB110_122.out;have hcz62_0 : w60.cell? ⟨gb122,0,none⟩ = some (.int .i64 0):=(blk_cell BK122.out 0).trans rfl;have hcz62_1 : w60.cell? ⟨gb122,1,none⟩ = some (.string (⟨#[]⟩ : ByteArray)):=(blk_cell BK122.out 1).trans rfl;have hfz62_0:=blk_frozen BK122.out 0;have hfz62_1:=blk_frozen BK122.out 1;have hcz63_0 : w60.cell? ⟨gb110,0,none⟩ = some (.int .i64 x111000_2):=(blk_cell BK110.out 0).trans rfl;have hcz63_1 : w60.cell? ⟨gb110,1,none⟩ = some (.string x111001_2):=(blk_cell BK110.out 1).trans rfl;have hfz63_0:=blk_frozen BK110.out 0;have hfz63_1:=blk_frozen BK110.out 1))
   refine bodyPost_ret (results_list (rs:=[.tmp 2,.cell 3 97,.tmp 4]) rfl (by simp) (.tmp (.cell gb110 97 #[.int .i64 0,.string (⟨#[]⟩ : ByteArray)] (0,0) _ rfl (by refine KU ?_;refine blk_put (cs:=#[.int .i64 0,.string x111001_2]) ?_ 1 _ rfl;refine KU ?_;refine blk_put (cs:=#[.int .i64 x111000_2,.string x111001_2]) ?_ 0 _ rfl;refine KU ?_;refine blk_far ?_ NB110_122.out _;refine KU ?_;refine blk_far ?_ NB110_122.out _;refine KU ?_;exact BK110.out) Try.underlying97 rfl (by kernel_rfl) (.tmp .nil)))) rfl ?_
   exact ⟨_,by first|rfl|(simp [errW_none,errW_some] <;> rfl)|(simp only [← hji38];first|rfl|(simp [errW_none,errW_some] <;> rfl))|(simp [*,errW_none,errW_some] <;> rfl),by first|exact Kd.R_nil _ _ _ _ _|exact Kd.N_nil _ _ _ _ _|exact Kd.V_nil _ _ _ _ _|exact Kd.Q_nil _ _ _ _ _|exact Kd.S_nil _ _ _ _ _,bH⟩
 rw [if_pos c42] at H
 have c42b0 : (t121 == 0) = true:=beq_iff_eq.mpr c42
 have c42b1 : (t121 != 0) = false:=bne_eq_false_iff_eq.mpr c42
 clear c42
 by_cases c43 : (x5_2.length : Int) > 8
 · rw [if_pos c43] at H
   have c43b0 : decide (8 < (x5_2.length : Int)) = true:=decide_eq_true c43
   have c43b1 : decide (8 < x5_2.length) = true:=decide_eq_true (by omega)
   clear c43
   simp only [Option.some.injEq,Prod.mk.injEq] at H
   obtain ⟨rfl,rfl,rfl,rfl⟩:=H
   go_wp2_with (first|((with_reducible refine gate_callee (f:=78) rfl ?_);refine goesL_ (some 65) rfl rfl Try.func78 (by kernel_rfl) rfl #[.string (a0.extract ((ji38) : Int).toNat a0.size)] rfl (by (try simp only [List.map_toArray,List.map_cons,List.map_nil]);first|done|(simp only [hji38];rfl)|rfl|(simp only [List.length_drop,List.length_take];rfl)) ?_;(with_reducible refine (sr06_Parse.calls kj11 (a0.extract ((ji38) : Int).toNat a0.size) t119 t120 t121 _ A41.out).mono ?_);rintro e w44 ⟨rfl,hb⟩;refine ⟨_,rfl,?_⟩;replace HO_5:=RN HO_5 hb;replace BK110:=KN BK110 hb;replace HB:=aq (below_step bH hb);(try clear hb);(try clear hb2);(try clear hk);(try clear hi))|((with_reducible refine gate_dst (N:=10) rfl ?_);refine box_event rfl (N:=10) rfl (cs:=#[.int .i64 0,.string (⟨#[]⟩ : ByteArray)]) (t:=97) gS ?_;intro gb122 hg w45 hbox hb;have BK122:=aq (hbox);have GE122:=aq ((GN hg : w.heap.size ≤ gb122));have NB110_122:=aq (NL hg BK110);have NB122_110:=aq (NG hg BK110);replace HO_5:=aq (Kd.R_below (Kd.R_elderB (RU HO_5.out) gb122 (Nat.le_of_eq hg.symm)) hb);replace BK110:=KN BK110 hb;replace HB:=aq (below_step bH hb);clear hb hbox hg;have hnb46:=NB122_110.out;have hnc46:=NB110_122.out;have hcz47_0 : w45.cell? ⟨gb122,0,none⟩ = some (.int .i64 0):=(blk_cell BK122.out 0).trans rfl;have hcz47_1 : w45.cell? ⟨gb122,1,none⟩ = some (.string (⟨#[]⟩ : ByteArray)):=(blk_cell BK122.out 1).trans rfl;have hfz47_0:=blk_frozen BK122.out 0;have hfz47_1:=blk_frozen BK122.out 1;obtain ⟨Ao48,co48,eo48⟩:=Kd.R_slice HO_5.out;subst eo48;have hcz49_0 : w45.cell? ⟨gb110,0,none⟩ = some (.int .i64 x111000_2):=(blk_cell BK110.out 0).trans rfl;have hcz49_1 : w45.cell? ⟨gb110,1,none⟩ = some (.string x111001_2):=(blk_cell BK110.out 1).trans rfl;have hfz49_0:=blk_frozen BK110.out 0;have hfz49_1:=blk_frozen BK110.out 1))
   refine bodyPost_ret (results_list (rs:=[.tmp 2,.cell 3 97,.tmp 4]) rfl (by simp) (.tmp (.cell gb110 97 #[.int .i64 0,.string (⟨#[]⟩ : ByteArray)] (0,0) _ rfl (by refine KU ?_;refine blk_put (cs:=#[.int .i64 0,.string x111001_2]) ?_ 1 _ rfl;refine KU ?_;refine blk_put (cs:=#[.int .i64 x111000_2,.string x111001_2]) ?_ 0 _ rfl;refine KU ?_;refine blk_far ?_ NB110_122.out _;refine KU ?_;refine blk_far ?_ NB110_122.out _;refine KU ?_;exact BK110.out) Try.underlying97 rfl (by kernel_rfl) (.tmp .nil)))) rfl ?_
   exact ⟨_,by first|rfl|(simp [errW_none,errW_some] <;> rfl)|(simp only [← hji38];first|rfl|(simp [errW_none,errW_some] <;> rfl))|(simp [*,errW_none,errW_some] <;> rfl),by first|exact Kd.R_nil _ _ _ _ _|exact Kd.N_nil _ _ _ _ _|exact Kd.V_nil _ _ _ _ _|exact Kd.Q_nil _ _ _ _ _|exact Kd.S_nil _ _ _ _ _,bH⟩
 rw [if_neg c43] at H
 have c43b0 : decide (8 < (x5_2.length : Int)) = false:=decide_eq_false c43
 have c43b1 : decide (8 < x5_2.length) = false:=decide_eq_false (by omega)
 clear c43
 simp only [Option.some.injEq,Prod.mk.injEq] at H
 obtain ⟨rfl,rfl,rfl,rfl⟩:=H
 try go_wp2_with (first|((with_reducible refine gate_callee (f:=78) rfl ?_);refine goesL_ (some 65) rfl rfl Try.func78 (by kernel_rfl) rfl #[.string (a0.extract ((ji38) : Int).toNat a0.size)] rfl (by (try simp only [List.map_toArray,List.map_cons,List.map_nil]);first|done|(simp only [hji38];rfl)|rfl|(simp only [List.length_drop,List.length_take];rfl)) ?_;(with_reducible refine (sr06_Parse.calls kj11 (a0.extract ((ji38) : Int).toNat a0.size) t119 t120 t121 _ A41.out).mono ?_);rintro e w50 ⟨rfl,hb⟩;refine ⟨_,rfl,?_⟩;replace HO_5:=RN HO_5 hb;replace BK110:=KN BK110 hb;replace HB:=aq (below_step bH hb);(try clear hb);(try clear hb2);(try clear hk);(try clear hi))|((with_reducible refine gate_dst (N:=10) rfl ?_);refine box_event rfl (N:=10) rfl (cs:=#[.int .i64 0,.string (⟨#[]⟩ : ByteArray)]) (t:=97) gS ?_;intro gb122 hg w51 hbox hb;have BK122:=aq (hbox);have GE122:=aq ((GN hg : w.heap.size ≤ gb122));have NB110_122:=aq (NL hg BK110);have NB122_110:=aq (NG hg BK110);replace HO_5:=aq (Kd.R_below (Kd.R_elderB (RU HO_5.out) gb122 (Nat.le_of_eq hg.symm)) hb);replace BK110:=KN BK110 hb;replace HB:=aq (below_step bH hb);clear hb hbox hg;have hnb52:=NB122_110.out;have hnc52:=NB110_122.out;have hcz53_0 : w51.cell? ⟨gb122,0,none⟩ = some (.int .i64 0):=(blk_cell BK122.out 0).trans rfl;have hcz53_1 : w51.cell? ⟨gb122,1,none⟩ = some (.string (⟨#[]⟩ : ByteArray)):=(blk_cell BK122.out 1).trans rfl;have hfz53_0:=blk_frozen BK122.out 0;have hfz53_1:=blk_frozen BK122.out 1;obtain ⟨Ao54,co54,eo54⟩:=Kd.R_slice HO_5.out;subst eo54))
 have n0_ : Aside0 (Kd.R k97 97 ((w51.setCell ⟨gb122,0,none⟩ (.int .i64 t119)).setCell ⟨gb122,1,none⟩ (.string t120)) w.heap.size (fun k_ => k_ ≠ gb110 ∧ k_ ≠ gb122) (.slice Ao54 x5_2.length co54) x5_2):=⟨by (with_reducible repeat (first|apply Kd.R_alloc|apply Kd.R_drewN|apply Kd.R_drew));exact Kd.R_mono (RF gb122 1 (RF gb122 0 (Kd.R_mono HO_5.out (fun k_ hk => (⟨hk,hk.2⟩ : _ ∧ k_ ≠ gb122))) (.int .i64 t119)) (.string t120)) (fun _ hk => ⟨hk.1.1,hk.1.2⟩)⟩
 have n1_ : Aside0 (((w51.setCell ⟨gb122,0,none⟩ (.int .i64 t119)).setCell ⟨gb122,1,none⟩ (.string t120)).heap[gb110]? = some (.cells #[.int .i64 x111000_2,.string x111001_2] 97 (0,0))):=⟨by refine KU ?_;refine blk_far ?_ NB110_122.out _;refine KU ?_;refine blk_far ?_ NB110_122.out _;refine KU ?_;exact BK110.out⟩
 have n2_ : Aside0 (((w51.setCell ⟨gb122,0,none⟩ (.int .i64 t119)).setCell ⟨gb122,1,none⟩ (.string t120)).heap[gb122]? = some (.cells #[.int .i64 t119,.string t120] 97 (0,0))):=⟨by refine KU ?_;refine blk_put (cs:=#[.int .i64 t119,.string (⟨#[]⟩ : ByteArray)]) ?_ 1 _ rfl;refine KU ?_;refine blk_put (cs:=#[.int .i64 0,.string (⟨#[]⟩ : ByteArray)]) ?_ 0 _ rfl;refine KU ?_;exact BK122.out⟩
 have n3_ : Aside0 (Below w.heap.size w ((w51.setCell ⟨gb122,0,none⟩ (.int .i64 t119)).setCell ⟨gb122,1,none⟩ (.string t120))):=⟨bH⟩
 (try clear HO_5)
 (try clear BK110)
 (try clear BK122)
 (try clear HB)
 generalize ((w51.setCell ⟨gb122,0,none⟩ (.int .i64 t119)).setCell ⟨gb122,1,none⟩ (.string t120)) = w55 at n0_ n1_ n2_ n3_ ⊢
 have HO_5:=n0_
 have BK110:=n1_
 have BK122:=n2_
 have HB:=n3_
 clear n0_ n1_ n2_ n3_
 replace HO_5:=aq (Kd.R_drew HO_5.out)
 replace BK110:=aq (blk_drew BK110.out)
 replace BK122:=aq (blk_drew BK122.out)
 replace HB:=aq (below_drew1 HB.out)
 refine start_ (n:=5) (S:=fun w' => w'.cell? ⟨gb122,0,none⟩ = some (.int .i64 t119) ∧ w'.cell? ⟨gb122,1,none⟩ = some (.string t120)) (ds:=[]) #[false,false,false,false,false] (by kernel_rfl) rfl rfl ⟨(blk_cell BK122.out 0).trans rfl,(blk_cell BK122.out 1).trans rfl⟩ (fun hHeld => ?_)
 generalize w55.drew = w56 at HO_5 BK110 BK122 HB hHeld ⊢
 refine pure_ (i:=0) (N:=some 76) (v:=?_) (a':=?_) #[true,false,false,false,false] rfl rfl (by kernel_rfl) (fun _ _ _ h => h) (Or.inl ⟨by rfl,?_⟩) ?_ ?_
 rotate_left
 · intro w'
   go_simp
   with_reducible rfl
 rotate_left
 · simp only [Act.put,List.setIfInBounds_toArray,List.set_cons_zero,List.set_cons_succ,i64_w,i32_w]
   rfl
 refine pure_ (i:=2) (N:=some 2) (v:=?_) (a':=?_) #[true,false,true,false,false] rfl rfl (by kernel_rfl) (fun _ _ _ h => h) (Or.inl ⟨by rfl,?_⟩) ?_ ?_
 rotate_left
 · intro w'
   go_simp
   with_reducible rfl
 rotate_left
 · simp only [Act.put,List.setIfInBounds_toArray,List.set_cons_zero,List.set_cons_succ,i64_w,i32_w]
   rfl
 refine take_ (i:=1) (N:=some 77) (v:=?_) (a':=?_) #[true,true,true,false,false] rfl rfl (by kernel_rfl) (fun _ _ _ h => h) (Or.inl ⟨by rfl,?_⟩) hHeld ?_ ?_
 rotate_left
 · rintro w' ⟨s0,s1⟩
   go_simp
   with_reducible rfl
 rotate_left
 · simp only [Act.put,List.setIfInBounds_toArray,List.set_cons_zero,List.set_cons_succ,i64_w,i32_w]
   rfl
 refine one_ (i:=3) (N:=none) #[true,true,true,true,false] rfl rfl (by kernel_rfl) (by decide) (fun K hK => ?_)
 have hs57 : w56.cell? ⟨gb110,0,none⟩ = some (.int .i64 x111000_2):=(blk_cell BK110.out 0).trans rfl
 have hfs57:=blk_frozen BK110.out 0
 have hns57_1:=NB122_110.out
 have hms57_1:=NB110_122.out
 have hs58 : w56.cell? ⟨gb110,1,none⟩ = some (.string x111001_2):=(blk_cell BK110.out 1).trans rfl
 have hfs58:=blk_frozen BK110.out 1
 have hns58_1:=NB122_110.out
 have hms58_1:=NB110_122.out
 refine skip_ (w1:=?_) (by rfl) rfl ?_ ?_
 rotate_left
 · go_simp
   rfl
 refine hK.out _ _ ⟨((cell_far (p:=⟨gb110,_,none⟩) NB122_110.out _).trans (((cell_far (p:=⟨gb110,_,none⟩) NB122_110.out _).trans (hHeld.1)))),((cell_far (p:=⟨gb110,_,none⟩) NB122_110.out _).trans (((cell_far (p:=⟨gb110,_,none⟩) NB122_110.out _).trans (hHeld.2))))⟩ (fun hHeld => ?_)
 clear hK K
 refine pure_ (i:=4) (N:=some 4) (v:=?_) (a':=?_) #[true,true,true,true,true] rfl rfl (by kernel_rfl) (fun _ _ _ h => h) (Or.inl ⟨by rfl,?_⟩) ?_ ?_
 rotate_left
 · intro w'
   go_simp
   with_reducible rfl
 rotate_left
 · simp only [Act.put,List.setIfInBounds_toArray,List.set_cons_zero,List.set_cons_succ,i64_w,i32_w]
   rfl
 refine done_ (by kernel_rfl) ?_
 try go_wp2
 refine bodyPost_ret (results_list (rs:=[.tmp 2,.cell 3 97,.tmp 4]) rfl (by simp) (.tmp (.cell gb110 97 #[.int .i64 t119,.string t120] (0,0) _ rfl (by refine KU ?_;refine blk_put (cs:=#[.int .i64 t119,.string x111001_2]) ?_ 1 _ rfl;refine KU ?_;refine blk_put (cs:=#[.int .i64 x111000_2,.string x111001_2]) ?_ 0 _ rfl;refine KU ?_;exact BK110.out) Try.underlying97 rfl (by kernel_rfl) (.tmp .nil)))) rfl ?_
 exact ⟨_,by first|rfl|(simp [errW_none,errW_some] <;> rfl)|(simp only [← hji38];first|rfl|(simp [errW_none,errW_some] <;> rfl))|(simp [*,errW_none,errW_some] <;> rfl),by (with_reducible repeat (first|apply Kd.R_alloc|apply Kd.R_drewN|apply Kd.R_drew));exact Kd.R_mono (RF gb110 1 (RF gb110 0 (Kd.R_mono HO_5.out (fun k_ hk => (⟨hk,hk.1⟩ : _ ∧ k_ ≠ gb110))) (.int .i64 t119)) (.string t120)) (fun _ hk => trivial),bH⟩
end Go.Proofs.Ytfplcohjnlbfjaa.Q8
end

section
namespace Go.Proofs.Ytfplcohjnlbfjaa.Hand
open Go.RowKit Go.Proofs.YtfplcohjnlbfjaaW
open PrintWords PrintLast PrintMore
theorem mid_bl (s : ByteArray) (a b : Nat) : bl (s.extract a b) = ((bl s).take b).drop a := by
 unfold bl
 rw [ByteArray.data_extract]
 simp only [Array.toList_extract,List.extract_eq_take_drop]
 rw [List.drop_take]
theorem byte_is {b c : UInt8} {m : Int} (hm : m = (c.toNat : Int)) : ((b.toNat : Int) = m) ↔ b = c := by
 subst hm
 constructor
 ·
  intro h
  apply UInt8.toNat_inj.1
  omega
 ·
  rintro rfl
  rfl
def NextIs (q : Option (Ty × List UInt8)) (n : Nat) (y : Option (Int × ByteArray × Int × Bool)) : Prop := match q with
 | some (t,r) => r.length ≤ n ∧ y = some (t.1,lb t.2,((n - r.length : Nat) : Int),true)
 | none => ∃ a b c,y = some (a,b,c,false)
theorem next_scan (s : ByteArray) (hs : s.size ≤ 1048576) (a : Nat) (x7 : Bool) : ∀ (d j k : Nat), s.size - j = d → a + 1 ≤ j → j ≤ s.size → d + 3 ≤ k →
  Q8.sr06_next.l0 k s (a : Int) x7 (j : Int) = match untilL 59 ((bl s).drop j) with
   | some (nm,r) => if classL (((bl s).take (j + nm.length)).drop (a + 1)) = true then some (if x7 = true then 5 else 3,lb (((bl s).take (j + nm.length)).drop (a + 1)),((j + nm.length + 1 : Nat) : Int),true) else some (0,(⟨#[]⟩ : ByteArray),0,false)
   | none => some (0,(⟨#[]⟩ : ByteArray),0,false):=by
 intro d
 induction d with
 | zero =>
  intro j k hd h1 h2 hk
  obtain ⟨k,rfl⟩ : ∃ i,k = i + 3:=⟨k - 3,by omega⟩
  have hj : j = s.size:=by omega
  rw [List.drop_of_length_le (by rw [bl_len];omega)]
  rw [Q8.sr06_next.l0,if_neg (by omega),Q8.sr06_next.j3,if_pos (by omega),Q8.sr06_next.j4,if_pos rfl]
  rfl
 | succ d ih =>
  intro j k hd h1 h2 hk
  obtain ⟨k,rfl⟩ : ∃ i,k = i + 1:=⟨k - 1,by omega⟩
  have hlt : j < s.size:=by omega
  obtain ⟨b,hb1,hb2,hdr⟩:=bt_bl s j hlt
  rw [Q8.sr06_next.l0,if_pos (by omega),if_pos (by omega),hb2,hdr,untilL]
  have hw1 : wrap64 ((a : Int) + 1) = ((a + 1 : Nat) : Int):=by rw [wrap_in (by omega) (by omega)];omega
  have hw2 : wrap64 ((j : Int) + 1) = ((j + 1 : Nat) : Int):=by rw [wrap_in (by omega) (by omega)];omega
  by_cases h59 : b = 59
  ·
   obtain ⟨k,rfl⟩ : ∃ i,k = i + 2:=⟨k - 2,by omega⟩
   have hcl : sr04_Class.f (s.extract (a + 1) j) = some (classL (((bl s).take j).drop (a + 1))):=by
    unfold sr04_Class.f
    rw [if_pos (by have:=extract_size s (a + 1) j;omega),← mid_bl]
    rfl
   rw [if_pos ((byte_is (c:=59) (m:=59) (by decide)).2 h59),if_pos h59,Q8.sr06_next.j3,if_neg (by omega),hw1,if_pos (by omega),if_pos (by omega),if_pos (by omega),Int.toNat_natCast,Int.toNat_natCast,hcl,Option.bind_some,Q8.sr06_next.j4]
   simp only [List.length_nil,Nat.add_zero]
   cases hc : classL (((bl s).take j).drop (a + 1)) with
   | false => rw [if_pos (show (!false) = true from rfl),if_neg (show ¬ (false = true) by decide)]
   | true =>
    rw [if_neg (show ¬ ((!true) = true) by decide),if_pos (show true = true from rfl),hw1,hw2,if_pos (by omega),if_pos (by omega),if_pos (by omega),Int.toNat_natCast,Int.toNat_natCast,← mid_bl,lb_bl]
    cases x7 <;> rfl
  ·
   rw [if_neg (fun h => h59 ((byte_is (c:=59) (m:=59) (by decide)).1 h)),if_neg h59,hw2,ih (j + 1) k (by omega) (by omega) (by omega) (by omega)]
   cases untilL 59 ((bl s).drop (j + 1)) with
   | none => rfl
   | some p =>
    obtain ⟨nm,r⟩:=p
    simp only [Option.map_some,List.length_cons]
    rw [show j + 1 + nm.length = j + (nm.length + 1) by omega]
theorem next_flat (s : ByteArray) (hs : s.size ≤ 1048576) (p : Nat) (hp : p ≤ s.size) (x7 : Bool) (k : Nat) (hk : s.size + 5 ≤ k) :
  NextIs (flatT classL (if x7 = true then 2 else 0) ((bl s).drop p)) s.size (Q8.sr06_next.j1 k s (p : Int) x7):=by
 obtain ⟨k,rfl⟩ : ∃ i,k = i + 1:=⟨k - 1,by omega⟩
 obtain ⟨D,hD⟩ : ∃ D : Int,(if x7 = true then (2 : Int) else 0) = D:=⟨_,rfl⟩
 rw [hD]
 by_cases hlt : p < s.size
 ·
  obtain ⟨b,hb1,hb2,hdr⟩:=bt_bl s p hlt
  have hw : wrap64 ((p : Int) + 1) = ((p + 1 : Nat) : Int):=by rw [wrap_in (by omega) (by omega)];omega
  have hrl : ((bl s).drop (p + 1)).length = s.size - (p + 1):=by rw [List.length_drop,bl_len]
  rw [Q8.sr06_next.j1,if_neg (by omega),if_pos (by omega),if_pos (by omega),hb2,hdr,flatT]
  by_cases h86 : b = 86
  ·
   rw [if_pos ((byte_is (c:=86) (m:=86) (by decide)).2 h86),if_pos h86,hw]
   subst hD
   cases x7 with
   | true => exact ⟨_,_,_,rfl⟩
   | false =>
    refine ⟨by omega,?_⟩
    rw [hrl,show s.size - (s.size - (p + 1)) = p + 1 by omega]
    rfl
  ·
   rw [if_neg (fun h => h86 ((byte_is (c:=86) (m:=86) (by decide)).1 h)),if_neg h86]
   by_cases h73 : b = 73
   ·
    rw [if_pos ((byte_is (c:=73) (m:=73) (by decide)).2 h73),if_pos h73,hw]
    subst hD
    refine ⟨by omega,?_⟩
    rw [hrl,show s.size - (s.size - (p + 1)) = p + 1 by omega]
    cases x7 <;> rfl
   ·
    rw [if_neg (fun h => h73 ((byte_is (c:=73) (m:=73) (by decide)).1 h)),if_neg h73]
    by_cases h76 : b = 76
    ·
     rw [if_pos ((byte_is (c:=76) (m:=76) (by decide)).2 h76),if_pos h76]
     obtain ⟨k,rfl⟩ : ∃ i,k = i + 1:=⟨k - 1,by omega⟩
     rw [Q8.sr06_next.l0,if_pos (by omega),if_pos (by omega),hb2,if_neg (fun h => by rw [(byte_is (c:=59) (m:=59) (by decide)).1 h] at h76;cases h76),hw,next_scan s hs p x7 _ (p + 1) k rfl (by omega) (by omega) (by omega)]
     unfold classT
     cases hu : untilL 59 ((bl s).drop (p + 1)) with
     | none => exact ⟨_,_,_,rfl⟩
     | some q =>
      obtain ⟨nm,r⟩:=q
      have hsp:=(until_some _ _ _ hu).1
      have hlen:=congrArg List.length hsp
      rw [hrl,List.length_append,List.length_cons] at hlen
      have hmid : ((bl s).take (p + 1 + nm.length)).drop (p + 1) = nm:=by
       rw [List.drop_take,show p + 1 + nm.length - (p + 1) = nm.length by omega,hsp,List.take_left]
      simp only
      rw [hmid]
      cases hc : classL nm with
      | false => exact ⟨_,_,_,rfl⟩
      | true =>
       subst hD
       refine ⟨by omega,?_⟩
       rw [if_pos rfl,show s.size - r.length = p + 1 + nm.length + 1 by omega]
       cases x7 <;> rfl
    ·
     rw [if_neg (fun h => h76 ((byte_is (c:=76) (m:=76) (by decide)).1 h)),if_neg h76]
     exact ⟨_,_,_,rfl⟩
 ·
  rw [Q8.sr06_next.j1,if_pos (by omega),List.drop_of_length_le (by rw [bl_len];omega)]
  exact ⟨_,_,_,rfl⟩
theorem next_is (s : ByteArray) (hs : s.size ≤ 1048576) (p : Nat) (hp : p ≤ s.size) (k : Nat) (hk : s.size + 6 ≤ k) :
  NextIs (oneT classL ((bl s).drop p)) s.size (Q8.sr06_next.f k s (p : Int)):=by
 obtain ⟨k,rfl⟩ : ∃ i,k = i + 1:=⟨k - 1,by omega⟩
 unfold Q8.sr06_next.f
 by_cases hlt : p < s.size
 ·
  obtain ⟨b,hb1,hb2,hdr⟩:=bt_bl s p hlt
  have hw : wrap64 ((p : Int) + 1) = ((p + 1 : Nat) : Int):=by rw [wrap_in (by omega) (by omega)];omega
  rw [if_pos (by omega),if_pos (by omega),hb2,Q8.sr06_next.j0,hdr,oneT]
  by_cases h91 : b = 91
  ·
   have e : ((b.toNat : Int) == 91) = true:=by rw [h91];rfl
   rw [e,if_pos (show true = true from rfl),if_pos h91,hw]
   exact next_flat s hs (p + 1) (by omega) true k (by omega)
  ·
   have e : ((b.toNat : Int) == 91) = false:=beq_eq_false_iff_ne.2 fun h => h91 ((byte_is (c:=91) (m:=91) (by decide)).1 h)
   rw [e,if_neg (show ¬ (false = true) by decide),if_neg h91,← hdr]
   exact next_flat s hs p (by omega) false k (by omega)
 ·
  rw [if_neg (by omega),Q8.sr06_next.j0,if_neg (by decide)]
  have:=next_flat s hs p hp false k (by omega)
  rw [List.drop_of_length_le (by rw [bl_len];omega)] at this ⊢
  exact this
theorem parseTR_eq (s : ByteArray) (hs : s.size ≤ 1048576) (k : Nat) (hk : s.size + 6 ≤ k) :
  Q8.sr06_Parse.f k s = some ((parseT classL (bl s)).1.1,lb (parseT classL (bl s)).1.2,(parseT classL (bl s)).2):=by
 have h:=next_is s hs 0 (by omega) k hk
 rw [List.drop_zero] at h
 unfold Q8.sr06_Parse.f parseT
 have e0 : ((0 : Nat) : Int) = 0:=rfl
 rw [e0] at h
 cases ho : oneT classL (bl s) with
 | none =>
  rw [ho] at h
  obtain ⟨a,b,c,h⟩:=h
  rw [h,Option.bind_some]
  dsimp only
  rw [if_neg (by decide)]
  rfl
 | some q =>
  obtain ⟨t,r⟩:=q
  rw [ho] at h
  obtain ⟨h1,h⟩:=h
  rw [h,Option.bind_some]
  dsimp only
  rw [if_pos rfl]
  cases r with
  | nil => rw [if_pos (by simp)]
  | cons x r =>
   have h2 : (bl s).length = s.size:=bl_len s
   have h3 : (x :: r).length = r.length + 1:=rfl
   rw [if_neg (by omega)]
   rfl
end Go.Proofs.Ytfplcohjnlbfjaa.Hand
end

section

end

section
namespace Go.Proofs.Ytfplcohjnlbfjaa.Hand
open Go.RowKit Go.Shelf Go.Proofs.YtfplcohjnlbfjaaW.PrintWords Go.Proofs.YtfplcohjnlbfjaaW.PrintLast Go.Proofs.YtfplcohjnlbfjaaW.PrintMore
abbrev WrongE (e : Int) : List PanicEntry := [{ v := .iface 151 (.agg #[.int .i64 e]), recovered := false }]
def Scan (w : World) (b : Nat) (s : ByteArray) (i : Nat) : Prop := w.heap[b]? = some (.cells #[.string s, .int .i64 (i : Int)] 146 (0, 0))
theorem kind_unless (e : Int) (w : World) : Calls Try.prog 111 #[.bool true, .int .i64 e] w fun x w' => x = .returned (.tuple #[]) ∧ w' = w := by
 go_enter Try.func111,Try.ntmps111
 go_wp2
 go_end0
 exact ⟨rfl,rfl⟩
theorem kind_unless_not (e : Int) (w : World) : Calls Try.prog 111 #[.bool false, .int .i64 e] w fun x w' => x = .panicked (WrongE e) ∧ w' = w := by
 go_enter Try.func111,Try.ntmps111
 go_wp2
 exact ⟨rfl,rfl,rfl⟩
theorem scan_cells {w : World} {b : Nat} {s : ByteArray} {i : Nat} (h : Scan w b s i) : w.cell? ⟨b, 0, none⟩ = some (.string s) ∧ w.cell? ⟨b, 1, none⟩ = some (.int .i64 (i : Int)) ∧ w.frozen? ⟨b, 1, none⟩ = false := by
 have h0:=blk_cell h 0
 have h1:=blk_cell h 1
 simp only [List.getElem?_toArray,List.getElem?_cons_zero,List.getElem?_cons_succ] at h0 h1
 exact ⟨h0,h1,blk_frozen h 1⟩
theorem scan_sees_none (b : Nat) (s : ByteArray) (i : Nat) (c : Int) (w : World) (h : Scan w b s i) (hi : s.size ≤ i) (hm : i ≤ 4611686018427387903) :
  Calls Try.prog 113 #[.pointer (some ⟨b,0,none⟩),.int .u8 c] w fun x w' => x = .returned (.bool false) ∧ Drawn0 w w':=by
 obtain ⟨h0,h1,h2⟩:=scan_cells h
 have hd : decide ((i : Int) < (s.size : Int)) = false:=decide_eq_false (by omega)
 have hnl : ¬ i < s.size:=by omega
 go_enter Try.func113,Try.ntmps113
 go_wp2
 go_region
 all_goals go_wp2
 all_goals first|(go_ret;exact ⟨rfl,(Drawn0.refl _).step 1⟩)|trace_state
theorem scan_sees_some (b : Nat) (s : ByteArray) (i : Nat) (c : Int) (w : World) (h : Scan w b s i) (hi : i < s.size) (hm : s.size ≤ 4611686018427387903) :
  Calls Try.prog 113 #[.pointer (some ⟨b,0,none⟩),.int .u8 c] w fun x w' => x = .returned (.bool ((s[i].toNat : Int) == c)) ∧ Drawn0 w w':=by
 obtain ⟨h0,h1,h2⟩:=scan_cells h
 have hd : decide ((i : Int) < (s.size : Int)) = true:=decide_eq_true (by omega)
 go_enter Try.func113,Try.ntmps113
 go_wp2
 go_region
 all_goals go_wp2
 all_goals first|(go_ret;exact ⟨rfl,(Drawn0.refl _).step 1⟩)|trace_state
theorem scan_next {w : World} {b : Nat} {s : ByteArray} {i : Nat} (h : Scan w b s i) (n m : Nat) : Scan (((w.drewN n).setCell ⟨b, 1, none⟩ (.int .i64 ((i : Int) + 1))).drewN m) b s (i + 1) := by
 have h1 : Scan (w.drewN n) b s i:=by
  unfold Scan at h ⊢
  rw [(pw_below_drewN (Below.refl (w.heap.size) w) n).block b (Array.getElem?_eq_some_iff.1 h).1]
  exact h
 have h2:=blk_set h1 1 (.int .i64 ((i : Int) + 1))
 simp only [List.setIfInBounds_toArray,List.set_cons_zero,List.set_cons_succ] at h2
 have hl:=(Array.getElem?_eq_some_iff.1 h2).1
 unfold Scan
 rw [(pw_below_drewN (Below.refl _ _) m).block b hl]
 exact h2
theorem scan_setCell (w : World) (a : Addr) (u : Value) : w.grownBy (w.setCell a u) (some a.block) :=
 ⟨rfl,rfl,rfl,Nat.le_of_eq (World.size_setCell w a u).symm,fun i hi hne => Below.heap_setCell w a u i (fun e => hne (by rw [e]))⟩
theorem scan_grown (w : World) (b i n m : Nat) : w.grownBy (((w.drewN n).setCell ⟨b, 1, none⟩ (.int .i64 ((i : Int) + 1))).drewN m) (some b) :=
 ((grown_drewN w n b).trans (scan_setCell _ ⟨b,1,none⟩ _)).trans (grown_drewN _ m b)
theorem scan_byte_some (b : Nat) (s : ByteArray) (i : Nat) (w : World) (h : Scan w b s i) (hi : i < s.size) (hm : s.size ≤ 4611686018427387903) :
  Calls Try.prog 112 #[.pointer (some ⟨b,0,none⟩)] w fun x w' => x = .returned (.int .u8 (s[i].toNat : Int)) ∧ Scan w' b s (i + 1) ∧ w.grownBy w' (some b):=by
 obtain ⟨h0,h1,h2⟩:=scan_cells h
 have hd : decide ((i : Int) < (s.size : Int)) = true:=decide_eq_true (by omega)
 go_enter Try.func112,Try.ntmps112
 go_wp2
 have hsum : IntKind.i64.wrap ((i : Int) + 1) = (i : Int) + 1:=IntWalk.i64_in _ ⟨by omega,by omega⟩
 have hsub : IntKind.i64.wrap ((i : Int) + 1 - 1) = (i : Int):=by rw [show (i : Int) + 1 - 1 = i by omega];exact IntWalk.i64_in _ ⟨by omega,by omega⟩
 go_quiet ((go_at_call 111;exact Calls.quiet_of_same (kind_unless _ _)))
 go_wp2
 go_quiet (fail)
 go_wp2
 refine bodyPost_ret (results_tmp rfl _ _ _) rfl ⟨rfl,scan_next h _ _,scan_grown w b i _ _⟩
theorem goesP_ {P : Program} {Q : Exit → Act → World → Prop} {ops : Array Oper} {oi : Oper} {N : Option Tmp} {a : Act} {w : World} {K : Act → World → Prop} {f : FuncId} {fn : Func} {ars : Array Operand} {ts : Array TypeId} (hf : P.funcs[f]? = some fn) (hname : (fn.name == "runtime.NumGoroutine") = false) (hb : fn.body.isSome = true) (args : Array Value)
  (hw : Region.wanted oi (yielded ops a.tmps) = true) (hop : oi.op = .call { callee:=.value (.func f),args:=ars,argTypes:=ts }) (hargs : ars.map a.eval = args)
  (h : Calls P f args w fun e w' => ∃ c,e = .panicked c ∧ Q (.panic c) a w') : if Region.wanted oi (yielded ops a.tmps) = true then Oper.wp P oi a w K Q else K (a.put N undef) w:=by
 rw [if_pos hw]
 have he:=enters_ hf hname hb args w
 have hrun : (execOp a.eval oi).run P w = .ok (.enter f args) w:=by
  unfold execOp
  simp [hop,resolve,Deferred.ofValue,invoke,Act.eval,hargs,he]
 unfold Oper.wp
 rw [hrun,Oper.upon_enter]
 refine h.mono fun e w'' hh => ?_
 obtain ⟨c,rfl,hk⟩:=hh
 exact hk
theorem kp_ {P : Program} {ops : Array Oper} {Q : Exit → Act → World → Prop} {md : Region.Mode} {S : World → Prop} {ds : List Nat} {i : Nat} {N : Option Tmp} {oi : Oper} {v : Value} {fuel : Nat} {l : Array Bool} {a a' : Act} {w : World} (hS : S w) (h : wpAnyLast P md ops Q S ds fuel (l.setIfInBounds i true) a' w) (hi : ops[i]? = some oi := by rfl) (hN : oi.dst = N := by rfl)
    (hc : takeB md ops ds l (l.setIfInBounds i true) i = true := by kernel_rfl) (hQ : ∀ c a w, Q (.panic c) (a.put oi.dst v) w → Q (.panic c) a w := by exact fun _ _ _ h => h)
    (hy : YieldsIf P ops S oi v a := by refine Or.inl ⟨by rfl, ?_⟩; intro w' hw'; (try dsimp only at hw'); (repeat (obtain ⟨_, hw'⟩ : _ ∧ _ := hw')); go_simp; (try with_reducible rfl))
    (ha : a.put N v = a' := by simp only [Act.put, List.setIfInBounds_toArray, List.set_cons_zero, List.set_cons_succ, i64_w, i32_w]; rfl) : wpAnyLast P md ops Q S ds (fuel + 1) l a w := take_ _ hi hN hc hQ hy hS ha h
theorem scan_byte_none (b : Nat) (s : ByteArray) (i : Nat) (w : World) (h : Scan w b s i) (hi : s.size ≤ i) (hm : i ≤ 4611686018427387903) :
  Calls Try.prog 112 #[.pointer (some ⟨b,0,none⟩)] w fun x w' => x = .panicked (WrongE 1) ∧ w.grownBy w' (some b):=by
 obtain ⟨h0,h1,h2⟩:=scan_cells h
 have hd : decide ((i : Int) < (s.size : Int)) = false:=decide_eq_false (by omega)
 have hd2 : decide (i < s.size) = false:=decide_eq_false (by omega)
 have hB:=below_drew1 (Below.refl w.heap.size w)
 have hs : w.drew.cell? ⟨b,0,none⟩ = some (.string s) ∧ w.drew.cell? ⟨b,1,none⟩ = some (.int .i64 (i : Int)) ∧ w.grownBy w.drew (some b):=⟨pw_cell_below hB h0,pw_cell_below hB h1,grown_of_below hB _⟩
 clear h0 h1 h2 hB
 go_enter Try.func112,Try.ntmps112
 go_wp2
 refine start_ (n:=11) (S:=fun w' => w'.cell? ⟨b,0,none⟩ = some (.string s) ∧ w'.cell? ⟨b,1,none⟩ = some (.int .i64 (i : Int)) ∧ w.grownBy w' (some b)) (ds:=[]) (Array.replicate 11 false) (by kernel_rfl) rfl rfl hs (fun hHeld => ?_)
 refine kp_ (i := 0) (N := some 3) hHeld ?_
 refine kp_ (i := 1) (N := some 4) hHeld ?_
 refine kp_ (i := 2) (N := some 5) hHeld ?_
 refine kp_ (i := 3) (N := some 6) hHeld ?_
 refine kp_ (i := 4) (N := some 7) hHeld ?_
 refine kp_ (i := 5) (N := some 8) hHeld ?_
 refine kp_ (i := 6) (N := some 9) hHeld ?_
 refine kp_ (i := 7) (N := some 10) hHeld ?_
 refine kp_ (i := 8) (N := some 11) hHeld ?_
 refine kp_ (i := 9) (N := some 12) hHeld ?_
 refine sO (i:=10) (N:=some 13) fun K hK => ?_
 refine goesP_ Try.func111 (by kernel_rfl) rfl #[.bool false,.int .i64 1] (by rfl) rfl (by simp only [List.map_toArray,List.map_cons,List.map_nil];rfl) ?_
 refine (kind_unless_not _ _).mono ?_
 rintro e w3 ⟨rfl,rfl⟩
 exact ⟨_,rfl,rfl,rfl,hHeld.2.2⟩
theorem scan_done (b : Nat) (s : ByteArray) (i : Nat) (w : World) (h : Scan w b s i) (hi : i = s.size) :
  Calls Try.prog 116 #[.pointer (some ⟨b,0,none⟩)] w fun x w' => x = .returned (.tuple #[]) ∧ Drawn0 w w':=by
 obtain ⟨h0,h1,h2⟩:=scan_cells h
 have hd : ((i : Int) == (s.size : Int)) = true:=by subst hi;exact beq_self_eq_true _
 go_enter Try.func116,Try.ntmps116
 go_wp2
 go_quiet ((go_at_call 111;exact Calls.quiet_of_same (kind_unless _ _)))
 go_wp2
 go_end0
 exact ⟨rfl,⟨_,rfl⟩⟩
theorem scan_done_not (b : Nat) (s : ByteArray) (i : Nat) (w : World) (h : Scan w b s i) (hi : i ≠ s.size) :
  Calls Try.prog 116 #[.pointer (some ⟨b,0,none⟩)] w fun x w' => x = .panicked (WrongE 1) ∧ w.grownBy w' (some b):=by
 obtain ⟨h0,h1,h2⟩:=scan_cells h
 have hd : ((i : Int) == (s.size : Int)) = false:=beq_eq_false_iff_ne.2 (by omega)
 have hB:=below_drew1 (Below.refl w.heap.size w)
 have hs : w.drew.cell? ⟨b,0,none⟩ = some (.string s) ∧ w.drew.cell? ⟨b,1,none⟩ = some (.int .i64 (i : Int)) ∧ w.grownBy w.drew (some b):=⟨pw_cell_below hB h0,pw_cell_below hB h1,grown_of_below hB _⟩
 clear h0 h1 h2 hB
 go_enter Try.func116,Try.ntmps116
 refine start_ (n:=11) (S:=fun w' => w'.cell? ⟨b,0,none⟩ = some (.string s) ∧ w'.cell? ⟨b,1,none⟩ = some (.int .i64 (i : Int)) ∧ w.grownBy w' (some b)) (ds:=[]) (Array.replicate 11 false) (by kernel_rfl) rfl rfl hs (fun hHeld => ?_)
 refine kp_ (i := 0) (N := some 2) hHeld ?_
 refine kp_ (i := 1) (N := some 3) hHeld ?_
 refine kp_ (i := 2) (N := some 4) hHeld ?_
 refine kp_ (i := 3) (N := some 5) hHeld ?_
 refine kp_ (i := 4) (N := some 6) hHeld ?_
 refine kp_ (i := 5) (N := some 7) hHeld ?_
 refine kp_ (i := 6) (N := some 8) hHeld ?_
 refine kp_ (i := 7) (N := some 9) hHeld ?_
 refine kp_ (i := 8) (N := some 10) hHeld ?_
 refine kp_ (i := 9) (N := some 11) hHeld ?_
 refine sO (i:=10) (N:=some 12) fun K hK => ?_
 refine goesP_ Try.func111 (by kernel_rfl) rfl #[.bool false,.int .i64 1] (by rfl) rfl (by simp only [List.map_toArray,List.map_cons,List.map_nil];rfl) ?_
 refine (kind_unless_not _ _).mono ?_
 rintro e w3 ⟨rfl,rfl⟩
 exact ⟨_,rfl,rfl,rfl,hHeld.2.2⟩
theorem bl_drop (s : ByteArray) (i : Nat) : bl (s.extract i s.size) = (bl s).drop i := by
 unfold bl
 rw [ByteArray.data_extract,Array.toList_extract,List.extract_eq_take_drop,List.take_of_length_le]
 rw [List.length_drop,Array.length_toList]
 exact Nat.le_refl _
theorem max_drewN {w : World} (h : MaxL w) (n : Nat) : MaxL (w.drewN n) := max_below h (pw_below_drewN (Below.refl _ w) n)
theorem scan_drawn {w w' : World} {b : Nat} {s : ByteArray} {i : Nat} (h : Scan w b s i) (hd : Drawn0 w w') : Scan w' b s i := by
 unfold Scan at h ⊢
 rw [hd.below.block b (Array.getElem?_eq_some_iff.1 h).1]
 exact h
theorem scan_set {w : World} {b : Nat} {s : ByteArray} {i : Nat} (h : Scan w b s i) (j : Nat) : Scan (w.setCell ⟨b, 1, none⟩ (.int .i64 (j : Int))) b s j := by
 have h2:=blk_set h 1 (.int .i64 (j : Int))
 simp only [List.setIfInBounds_toArray,List.set_cons_zero,List.set_cons_succ] at h2
 exact h2
theorem cut_at (s : ByteArray) (i : Nat) (w : World) (hM : MaxL w) (hm : s.size ≤ 1048576) (hi : i ≤ s.size) (nm r : List UInt8) (ok : Bool) (hc : Lib.cut ((bl s).drop i) [59] = (nm, r, ok)) (n : Nat) :
  Calls Try.prog 120 #[.string (s.extract i s.size),.string ⟨#[59]⟩] (w.drewN n) fun e w'' => e = .returned (.tuple #[.string (lb nm),.string (lb r),.bool ok]) ∧ ∃ m,w'' = w.drewN m:=by
 obtain ⟨m,hmm⟩:=max_drewN hM n
 have:=Try.strings_Cut (s.extract i s.size) ⟨#[59]⟩ m (w.drewN n) (by have:=extract_size s i s.size;omega) hmm
 have e : (s.extract i s.size).data.toList = (bl s).drop i:=bl_drop s i
 have e2 : (⟨#[59]⟩ : ByteArray).data.toList = [59]:=rfl
 rw [e,e2,hc] at this
 exact Calls.quiet_of this
theorem cut_name {l nm r : List UInt8} (h : Lib.cut l [59] = (nm, r, true)) : untilL 59 l = some (nm, r) := by
 rw [cut_until] at h
 cases hu : untilL 59 l with
 | none => rw [hu] at h;simp at h
 | some p => rw [hu] at h;simp at h;obtain ⟨rfl,rfl⟩:=h;rfl
theorem scan_class (b : Nat) (s : ByteArray) (i : Nat) (w : World) (hM : MaxL w) (h : Scan w b s i) (hi : i ≤ s.size) (hm : s.size ≤ 1048576) (nm r : List UInt8) (hu : untilL 59 ((bl s).drop i) = some (nm, r)) (hcl : classL nm = true) :
  Calls Try.prog 118 #[.pointer (some ⟨b,0,none⟩)] w fun x w' => x = .returned (.string (lb nm)) ∧ Scan w' b s (s.size - r.length) ∧ w.grownBy w' (some b):=by
 obtain ⟨h0,h1,h2⟩:=scan_cells h
 have hcut : Lib.cut ((bl s).drop i) [59] = (nm,r,true):=by rw [cut_until,hu]
 have hrl : r.length ≤ s.size:=by
  have:=congrArg List.length (until_some _ _ _ hu).1
  rw [List.length_drop,bl_len] at this
  simp at this
  omega
 have hnl : nm.length ≤ s.size:=by
  have:=congrArg List.length (until_some _ _ _ hu).1
  rw [List.length_drop,bl_len] at this
  simp at this
  omega
 have HC:=aq (cut_at s i w hM hm hi nm r true hcut)
 have HK:=aq (fun n => (word_Class.calls (lb nm) true (w.drewN n) (by unfold word_Class.f;rw [if_pos (by show nm.length ≤ _;omega)];exact congrArg some hcl)))
 have hi1 : (i : Int) ≤ (s.size : Int):=by omega
 have hsz : (lb r).size = r.length:=by unfold lb;rfl
 go_enter Try.func118,Try.ntmps118
 go_wp2
 go_quiet ((go_at_call 120;exact HC.out _))
 go_wp2_with (first|(go_at_call 99;refine (HK.out _).mono ?_;rintro e w1 ⟨rfl,hd1⟩;have hD : Drawn0 w w1:=drawn_trans ⟨⟨_,rfl⟩⟩ hd1;have hs1:=scan_drawn h hD;obtain ⟨q0,q1,q2⟩:=scan_cells hs1;clear hd1)|(go_at_call 111;refine (kind_unless _ _).mono ?_;rintro e w2 ⟨rfl,rfl⟩))
 refine bodyPost_ret (results_tmp rfl _ _ _) rfl ⟨rfl,?_,?_⟩
 ·
  rw [show (s.size : Int) - (r.length : Int) = ((s.size - r.length : Nat) : Int) by omega]
  exact scan_set hs1 _
 ·
  exact (grown_of_below hD.below _).trans (scan_setCell _ ⟨b,1,none⟩ _)
theorem scan_class_not (b : Nat) (s : ByteArray) (i : Nat) (w : World) (hM : MaxL w) (h : Scan w b s i) (hi : i ≤ s.size) (hm : s.size ≤ 1048576) (hu : ∀ nm r, untilL 59 ((bl s).drop i) = some (nm, r) → classL nm = false) :
  Calls Try.prog 118 #[.pointer (some ⟨b,0,none⟩)] w fun x w' => x = .panicked (WrongE 1) ∧ w.grownBy w' (some b):=by
 obtain ⟨h0,h1,h2⟩:=scan_cells h
 obtain ⟨nm,r,ok,hcut⟩ : ∃ nm r ok,Lib.cut ((bl s).drop i) [59] = (nm,r,ok):=⟨_,_,_,rfl⟩
 have HC:=aq (cut_at s i w hM hm hi nm r ok hcut)
 have hi1 : (i : Int) ≤ (s.size : Int):=by omega
 cases ok with
 | false =>
  go_enter Try.func118,Try.ntmps118
  go_wp2
  go_quiet ((go_at_call 120;exact HC.out _))
  go_wp2_with (go_at_call 111;refine (kind_unless_not _ _).mono ?_;rintro e w2 ⟨rfl,rfl⟩)
  exact ⟨rfl,rfl,grown_drewN _ _ _⟩
 | true =>
  have hu1:=cut_name hcut
  have hcl:=hu nm r hu1
  have hnl : nm.length ≤ s.size:=by
   have:=congrArg List.length (until_some _ _ _ hu1).1
   rw [List.length_drop,bl_len] at this
   simp at this
   omega
  have HK:=aq (fun n => (word_Class.calls (lb nm) false (w.drewN n) (by unfold word_Class.f;rw [if_pos (by show nm.length ≤ _;omega)];exact congrArg some hcl)))
  clear hu hu1 hcut
  go_enter Try.func118,Try.ntmps118
  go_wp2
  go_quiet ((go_at_call 120;exact HC.out _))
  go_wp2_with (first|(go_at_call 99;refine (HK.out _).mono ?_;rintro e w1 ⟨rfl,hd1⟩;have hD : Drawn0 w w1:=drawn_trans ⟨⟨_,rfl⟩⟩ hd1;clear hd1)|(go_at_call 111;refine (kind_unless_not _ _).mono ?_;rintro e w2 ⟨rfl,rfl⟩))
  exact ⟨rfl,rfl,grown_of_below hD.below _⟩
def endS (b : Nat) (s : ByteArray) (w : World) (q : Option (Ty × List UInt8)) (x : Ending) (w' : World) : Prop :=
 w.grownBy w' (some b) ∧ match q with
  | some (t,r) => x = .returned (.agg #[.int .i64 t.1,.string (lb t.2)]) ∧ Scan w' b s (s.size - r.length)
  | none => x = .panicked (WrongE 1)
theorem max_grown {w w' : World} {b : Nat} (h : MaxL w) (hb : 0 ≠ b) (hg : w.grownBy w' (some b)) : MaxL w' := by
 obtain ⟨m,hm⟩:=h
 have hl:=World.block_lt_of_cell? w _ hm
 refine ⟨m,?_⟩
 have e:=hg.block 0 hl (by simpa using hb)
 exact by rw [← hm];unfold World.cell?;rw [e]
theorem drop_cons (s : ByteArray) (i : Nat) (hi : i < s.size) : (bl s).drop i = s[i] :: (bl s).drop (i + 1) := drop_data s i hi
def Res (w : World) (g : Nat) : Prop := w.heap[g]? = some (.cells #[.int .i64 0, .string ⟨#[]⟩] 97 (0, 0))
theorem res_cells {w : World} {g : Nat} (h : Res w g) : w.cell? ⟨g, 0, none⟩ = some (.int .i64 0) ∧ w.cell? ⟨g, 1, none⟩ = some (.string ⟨#[]⟩) ∧ w.frozen? ⟨g, 0, none⟩ = false ∧ w.frozen? ⟨g, 1, none⟩ = false := by
 have h0:=blk_cell h 0
 have h1:=blk_cell h 1
 simp only [List.getElem?_toArray,List.getElem?_cons_zero,List.getElem?_cons_succ] at h0 h1
 exact ⟨h0,h1,blk_frozen h 0,blk_frozen h 1⟩
theorem res_new (w : World) : Res (w.alloc (.cells #[.int .i64 0, .string ⟨#[]⟩] 97)) w.heap.size := World.alloc_heap_new _ _
theorem res_kept {w w' : World} {g b : Nat} (h : Res w g) (hg : w.grownBy w' (some b)) (hne : g ≠ b) : Res w' g := by
 unfold Res at h ⊢
 rw [hg.block g (Array.getElem?_eq_some_iff.1 h).1 (by simpa using hne)]
 exact h
theorem scan_alloc {w : World} {b : Nat} {s : ByteArray} {i : Nat} (h : Scan w b s i) (o : Obj) : Scan (w.alloc o) b s i := by
 unfold Scan at h ⊢
 rw [Below.heap_alloc w o b (Array.getElem?_eq_some_iff.1 h).1]
 exact h
theorem scan_far {w : World} {b : Nat} {s : ByteArray} {i : Nat} (h : Scan w b s i) {p : Addr} (hp : p.block ≠ b) (v : Value) : Scan (w.setCell p v) b s i := by
 unfold Scan at h ⊢
 rw [Below.heap_setCell w p v b (fun e => hp e.symm)]
 exact h
theorem grown_res {w w1 : World} {b : Nat} {o : Obj} (h : (w.alloc o).grownBy w1 (some b)) : w.grownBy w1 (some b) := (World.grownBy_alloc w o _).trans h
theorem grown_res2 {w w1 : World} {b : Nat} {o : Obj} (h : (w.alloc o).grownBy w1 (some b)) (u v : Value) : w.grownBy ((w1.setCell ⟨w.heap.size, 0, none⟩ u).setCell ⟨w.heap.size, 1, none⟩ v) (some b) := by
 have h0:=grown_res h
 refine ⟨h0.os,h0.tape,h0.output,?_,fun k hk hne => ?_⟩
 ·
  simpa using h0.size
 ·
  rw [Below.heap_setCell _ _ _ _ (by simp;omega),Below.heap_setCell _ _ _ _ (by simp;omega)]
  exact h0.block k hk hne
theorem at_len (s : ByteArray) (i : Nat) (hi : i < s.size) : s.size - ((bl s).drop (i + 1)).length = i + 1 := by
 rw [List.length_drop,bl_len]
 omega
theorem byte_of {x : UInt8} {n : Nat} [OfNat UInt8 n] (e : (x.toNat : Int) = n) : x = UInt8.ofNat n := by
 have : x.toNat = n:=by omega
 rw [← this,UInt8.ofNat_toNat]
theorem one_any (b : Nat) (s : ByteArray) (i : Nat) (w : World) (hM : MaxL w) (hb : 0 ≠ b) (h : Scan w b s i) (hi : i ≤ s.size) (hm : s.size ≤ 1048576)
  (hArr : ∀ W,Scan W b s (i + 1) → MaxL W → (∃ l,(bl s).drop i = 91 :: l) → Calls Try.prog 119 #[.pointer (some ⟨b,0,none⟩)] W (endS b s W (flatT classL 2 ((bl s).drop (i + 1))))) :
  Calls Try.prog 114 #[.pointer (some ⟨b,0,none⟩)] w (endS b s w (oneT classL ((bl s).drop i))):=by
 have hbl : b < w.heap.size:=(Array.getElem?_eq_some_iff.1 h).1
 have hS0:=scan_alloc h (.cells #[.int .i64 0,.string ⟨#[]⟩] 97)
 have hM0:=max_grown hM (b:=w.heap.size) (by obtain ⟨m,hm⟩:=hM;have:=World.block_lt_of_cell? w _ hm;simp at this;omega) (World.grownBy_alloc w (.cells #[.int .i64 0,.string ⟨#[]⟩] 97) _)
 have hR0:=res_new w
 by_cases he : i = s.size
 ·
  have hd : (bl s).drop i = []:=by rw [List.drop_eq_nil_iff,bl_len];omega
  rw [hd]
  go_enter Try.func114,Try.ntmps114
  go_wp2_with (go_at_call 112;refine (scan_byte_none b s i _ hS0 (by omega) (by omega)).mono ?_;rintro e w1 ⟨rfl,hg⟩)
  exact ⟨rfl,grown_res hg,rfl⟩
 ·
  have hlt : i < s.size:=by omega
  have hd:=drop_cons s i hlt
  have HB:=aq (scan_byte_some b s i _ hS0 hlt (by omega))
  have HI:=aq hi
  have HA:=aq hArr
  rw [hd]
  rw [hd] at HA
  obtain ⟨x,hx⟩ : ∃ x,s[i] = x:=⟨_,rfl⟩
  rw [hx] at HB HA ⊢
  have HX:=aq hx
  clear hx hd hArr hi hS0
  have HR : Aside0 (∀ w1,(w.alloc (.cells #[.int .i64 0,.string ⟨#[]⟩] 97)).grownBy w1 (some b) → Res w1 w.heap.size):=⟨fun w1 hg => res_kept hR0 hg (by omega)⟩
  clear hR0
  by_cases e1 : x = 86
  ·
   subst e1
   go_enter Try.func114,Try.ntmps114
   go_wp2_with (go_at_call 112;refine HB.out.mono ?_;rintro e w1 ⟨rfl,hs1,hg1⟩;obtain ⟨c0,c1,f0,f1⟩:=res_cells (HR.out w1 hg1))
   refine ⟨rfl,.agg #[.int .i64 1,.string (⟨#[]⟩)],by simp [results,Try.results114,go_sem,c0,c1],?_⟩
   exact ⟨grown_res2 hg1 _ _,rfl,by rw [at_len s i hlt];exact scan_far (scan_far hs1 (p:=⟨w.heap.size,0,none⟩) (by simp;omega) _) (p:=⟨w.heap.size,1,none⟩) (by simp;omega) _⟩
  ·
   by_cases e2 : x = 73
   ·
    subst e2
    go_enter Try.func114,Try.ntmps114
    go_wp2_with (go_at_call 112;refine HB.out.mono ?_;rintro e w1 ⟨rfl,hs1,hg1⟩;obtain ⟨c0,c1,f0,f1⟩:=res_cells (HR.out w1 hg1))
    refine ⟨rfl,.agg #[.int .i64 2,.string (⟨#[]⟩)],by simp [results,Try.results114,go_sem,c0,c1],?_⟩
    exact ⟨grown_res2 hg1 _ _,rfl,by rw [at_len s i hlt];exact scan_far (scan_far hs1 (p:=⟨w.heap.size,0,none⟩) (by simp;omega) _) (p:=⟨w.heap.size,1,none⟩) (by simp;omega) _⟩
   ·
    by_cases e3 : x = 76
    ·
     subst e3
     have hot : oneT classL (76 :: (bl s).drop (i + 1)) = classT classL 3 ((bl s).drop (i + 1)):=rfl
     rw [hot]
     unfold classT
     cases hu : untilL 59 ((bl s).drop (i + 1)) with
     | none =>
      have HC:=aq (fun W hMW hSW => scan_class_not b s (i + 1) W hMW hSW (by omega) hm (fun nm r e => by rw [hu] at e;cases e))
      go_enter Try.func114,Try.ntmps114
      go_wp2_with (first|(go_at_call 112;refine HB.out.mono ?_;rintro e w1 ⟨rfl,hs1,hg1⟩;obtain ⟨c0,c1,f0,f1⟩:=res_cells (HR.out w1 hg1))|(go_at_call 118;refine (HC.out _ (max_grown hM0 hb hg1) hs1).mono ?_;rintro e w2 ⟨rfl,hg2⟩))
      exact ⟨rfl,grown_res (hg1.trans hg2),rfl⟩
     | some p =>
      obtain ⟨nm,r⟩:=p
      dsimp only
      by_cases hcl : classL nm = true
      ·
       rw [if_pos hcl]
       have HC:=aq (fun W hMW hSW => scan_class b s (i + 1) W hMW hSW (by omega) hm nm r hu hcl)
       go_enter Try.func114,Try.ntmps114
       go_wp2_with (first|(go_at_call 112;refine HB.out.mono ?_;rintro e w1 ⟨rfl,hs1,hg1⟩;obtain ⟨c0,c1,f0,f1⟩:=res_cells (HR.out w1 hg1))|(go_at_call 118;refine (HC.out _ (max_grown hM0 hb hg1) hs1).mono ?_;rintro e w2 ⟨rfl,hs2,hg2⟩;have hg1:=hg1.trans hg2;obtain ⟨c0,c1,f0,f1⟩:=res_cells (HR.out w2 hg1)))
       refine ⟨rfl,.agg #[.int .i64 3,.string (lb nm)],by simp [results,Try.results114,go_sem,c0,c1],?_⟩
       exact ⟨grown_res2 hg1 _ _,rfl,scan_far (scan_far hs2 (p:=⟨w.heap.size,0,none⟩) (by simp;omega) _) (p:=⟨w.heap.size,1,none⟩) (by simp;omega) _⟩
      ·
       rw [if_neg hcl]
       have HC:=aq (fun W hMW hSW => scan_class_not b s (i + 1) W hMW hSW (by omega) hm (fun nm' r' e => by rw [hu] at e;cases e;simpa using hcl))
       go_enter Try.func114,Try.ntmps114
       go_wp2_with (first|(go_at_call 112;refine HB.out.mono ?_;rintro e w1 ⟨rfl,hs1,hg1⟩;obtain ⟨c0,c1,f0,f1⟩:=res_cells (HR.out w1 hg1))|(go_at_call 118;refine (HC.out _ (max_grown hM0 hb hg1) hs1).mono ?_;rintro e w2 ⟨rfl,hg2⟩))
       exact ⟨rfl,grown_res (hg1.trans hg2),rfl⟩
    ·
     by_cases e4 : x = 91
     ·
      subst e4
      have hot : oneT classL (91 :: (bl s).drop (i + 1)) = flatT classL 2 ((bl s).drop (i + 1)):=rfl
      rw [hot]
      cases hf : flatT classL 2 ((bl s).drop (i + 1)) with
      | none =>
       rw [hf] at HA
       go_enter Try.func114,Try.ntmps114
       go_wp2_with (first|(go_at_call 112;refine HB.out.mono ?_;rintro e w1 ⟨rfl,hs1,hg1⟩;obtain ⟨c0,c1,f0,f1⟩:=res_cells (HR.out w1 hg1))|(go_at_call 119;refine (HA.out _ hs1 (max_grown hM0 hb hg1) ⟨_,rfl⟩).mono ?_;rintro e w2 ⟨hg2,rfl⟩))
       exact ⟨rfl,grown_res (hg1.trans hg2),rfl⟩
      | some p =>
       obtain ⟨⟨k,c⟩,r⟩:=p
       rw [hf] at HA
       go_enter Try.func114,Try.ntmps114
       go_wp2_with (first|(go_at_call 112;refine HB.out.mono ?_;rintro e w1 ⟨rfl,hs1,hg1⟩;obtain ⟨c0,c1,f0,f1⟩:=res_cells (HR.out w1 hg1))|(go_at_call 119;refine (HA.out _ hs1 (max_grown hM0 hb hg1) ⟨_,rfl⟩).mono ?_;rintro e w2 ⟨hg2,rfl,hs2⟩;have hg1:=hg1.trans hg2;obtain ⟨c0,c1,f0,f1⟩:=res_cells (HR.out w2 hg1)))
       refine ⟨rfl,.agg #[.int .i64 k,.string (lb c)],by simp [results,Try.results114,go_sem,c0,c1],?_⟩
       exact ⟨grown_res2 hg1 _ _,rfl,scan_far (scan_far hs2 (p:=⟨w.heap.size,0,none⟩) (by simp;omega) _) (p:=⟨w.heap.size,1,none⟩) (by simp;omega) _⟩
     ·
      have hot : oneT classL (x :: (bl s).drop (i + 1)) = none:=by
       simp [oneT,flatT,e1,e2,e3,e4]
      rw [hot]
      have q1 : ((x.toNat : Int) == 86) = false:=beq_eq_false_iff_ne.2 (fun e => e1 (byte_of e))
      have q2 : ((x.toNat : Int) == 73) = false:=beq_eq_false_iff_ne.2 (fun e => e2 (byte_of e))
      have q3 : ((x.toNat : Int) == 76) = false:=beq_eq_false_iff_ne.2 (fun e => e3 (byte_of e))
      have q4 : ((x.toNat : Int) == 91) = false:=beq_eq_false_iff_ne.2 (fun e => e4 (byte_of e))
      go_enter Try.func114,Try.ntmps114
      go_wp2_with (go_at_call 112;refine HB.out.mono ?_;rintro e w1 ⟨rfl,hs1,hg1⟩;obtain ⟨c0,c1,f0,f1⟩:=res_cells (HR.out w1 hg1))
      exact ⟨rfl,grown_res hg1,rfl⟩
theorem one_of (b : Nat) (s : ByteArray) (i : Nat) (w : World) (hM : MaxL w) (hb : 0 ≠ b) (h : Scan w b s i) (hi : i ≤ s.size) (hm : s.size ≤ 1048576) (x : UInt8) (l : List UInt8) (hd : (bl s).drop i = x :: l) (hx : x ≠ 91) :
  Calls Try.prog 114 #[.pointer (some ⟨b,0,none⟩)] w (endS b s w (flatT classL 0 (x :: l))):=by
 have:=one_any b s i w hM hb h hi hm (fun W _ _ ⟨l',e⟩ => by rw [hd] at e;cases e;exact absurd rfl hx)
 rw [hd] at this
 unfold oneT at this
 dsimp only at this
 rw [if_neg hx] at this
 exact this
theorem res_two {w : World} {g : Nat} {x y : Value} (u v : Value) (o : Obj) (hlt : g < w.heap.size) (c0 : w.cell? ⟨g, 0, none⟩ = some x) (c1 : w.cell? ⟨g, 1, none⟩ = some y) :
  (((w.setCell ⟨g,0,none⟩ u).setCell ⟨g,1,none⟩ v).alloc o).cell? ⟨g,0,none⟩ = some u ∧ (((w.setCell ⟨g,0,none⟩ u).setCell ⟨g,1,none⟩ v).alloc o).cell? ⟨g,1,none⟩ = some v:=by
 rw [World.cell?_alloc_past _ _ _ (by simpa using hlt),World.cell?_alloc_past _ _ _ (by simpa using hlt)]
 simp [go_sem,c0,c1]
theorem scan_array (b : Nat) (s : ByteArray) (i : Nat) (w : World) (hM : MaxL w) (hb : 0 ≠ b) (h : Scan w b s i) (hi : i ≤ s.size) (hm : s.size ≤ 1048576) :
  Calls Try.prog 119 #[.pointer (some ⟨b,0,none⟩)] w (endS b s w (flatT classL 2 ((bl s).drop i))):=by
 have hbl : b < w.heap.size:=(Array.getElem?_eq_some_iff.1 h).1
 have hS0:=scan_alloc h (.cells #[.int .i64 0,.string ⟨#[]⟩] 97)
 have hM0:=max_grown hM (b:=w.heap.size) (by obtain ⟨m,hm⟩:=hM;have:=World.block_lt_of_cell? w _ hm;simp at this;omega) (World.grownBy_alloc w (.cells #[.int .i64 0,.string ⟨#[]⟩] 97) _)
 have hR0:=res_new w
 have hG : (w.alloc (.cells #[.int .i64 0,.string ⟨#[]⟩] 97)).grownBy (w.alloc (.cells #[.int .i64 0,.string ⟨#[]⟩] 97)) (some b):=World.grownBy.refl _ _
 by_cases he : i = s.size
 ·
  have hd : (bl s).drop i = []:=by rw [List.drop_eq_nil_iff,bl_len];omega
  rw [hd]
  go_enter Try.func119,Try.ntmps119
  go_wp2_with (first|(go_at_call 111;refine (kind_unless_not _ _).mono ?_;rintro e w2 ⟨rfl,rfl⟩)|(go_at_call 113;refine (scan_sees_none b s i _ _ hS0 (by omega) (by omega)).mono ?_;rintro e w1 ⟨rfl,hD1⟩;have hS0:=scan_drawn hS0 hD1;have hG:=hG.trans (grown_of_below hD1.below _)))
  exact ⟨rfl,grown_res hG,rfl⟩
 ·
  have hlt : i < s.size:=by omega
  have hd:=drop_cons s i hlt
  have HB:=aq (fun W c hW => scan_sees_some b s i c W hW hlt (by omega))
  have HI:=aq hi
  have HO0 : ∀ W,MaxL W → Scan W b s i → s[i] ≠ 91 → Calls Try.prog 114 #[.pointer (some ⟨b,0,none⟩)] W (endS b s W (flatT classL 0 (s[i] :: (bl s).drop (i + 1)))):=fun W hMW hW hx => one_of b s i W hMW hb hW hi hm s[i] ((bl s).drop (i + 1)) hd hx
  have HR : Aside0 (∀ w1,(w.alloc (.cells #[.int .i64 0,.string ⟨#[]⟩] 97)).grownBy w1 (some b) → Res w1 w.heap.size):=⟨fun w1 hg => res_kept hR0 hg (by omega)⟩
  have HL : Aside0 (∀ w1,(w.alloc (.cells #[.int .i64 0,.string ⟨#[]⟩] 97)).grownBy w1 (some b) → w.heap.size < w1.heap.size):=⟨fun w1 hg => by have:=hg.size;simp at this;omega⟩
  rw [hd]
  obtain ⟨x,hx⟩ : ∃ x,s[i] = x:=⟨_,rfl⟩
  rw [hx] at HB HO0 ⊢
  have HX:=aq hx
  clear hx hd hi hR0
  by_cases e1 : x = 73
  ·
   subst e1
   have HO:=aq (fun W a c => HO0 W a c (by decide))
   have hf : flatT classL 0 (73 :: (bl s).drop (i + 1)) = some ((2,[]),(bl s).drop (i + 1)):=rfl
   have hf2 : flatT classL 2 (73 :: (bl s).drop (i + 1)) = some ((4,[]),(bl s).drop (i + 1)):=rfl
   rw [hf] at HO
   rw [hf2]
   clear HO0
   go_enter Try.func119,Try.ntmps119
   go_wp2_with (first|(go_at_call 113;refine (HB.out _ _ hS0).mono ?_;rintro e w1 ⟨rfl,hD1⟩;have hS0:=scan_drawn hS0 hD1;have hG:=hG.trans (grown_of_below hD1.below _))|(go_at_call 111;refine (kind_unless _ _).mono ?_;rintro e w2 ⟨rfl,rfl⟩)|(go_at_call 114;refine (HO.out _ (max_grown hM0 hb hG) hS0).mono ?_;rintro e w3 ⟨hg3,rfl,hs3⟩;have hG:=hG.trans hg3;obtain ⟨c0,c1,f0,f1⟩:=res_cells (HR.out w3 hG);have hlt3:=HL.out w3 hG))
   obtain ⟨d0,d1⟩:=res_two (.int .i64 4) (.string (lb [])) (.cells #[.int .i64 4,.string (lb [])] 97) hlt3 c0 c1
   refine ⟨rfl,.agg #[.int .i64 4,.string (lb [])],by simp [results,Try.results119,go_sem,d0,d1],?_⟩
   exact ⟨(grown_res2 hG _ _).trans (World.grownBy_alloc _ _ _),rfl,scan_alloc (scan_far (scan_far hs3 (p:=⟨w.heap.size,0,none⟩) (by simp;omega) _) (p:=⟨w.heap.size,1,none⟩) (by simp;omega) _) _⟩
  ·
   by_cases e2 : x = 76
   ·
    subst e2
    have HO1:=fun W a c => HO0 W a c (by decide)
    have hf : flatT classL 0 (76 :: (bl s).drop (i + 1)) = classT classL 3 ((bl s).drop (i + 1)):=rfl
    have hf2 : flatT classL 2 (76 :: (bl s).drop (i + 1)) = classT classL 5 ((bl s).drop (i + 1)):=rfl
    rw [hf] at HO1
    rw [hf2]
    clear HO0 hf hf2
    have hcase : (classT classL 3 ((bl s).drop (i + 1)) = none ∧ classT classL 5 ((bl s).drop (i + 1)) = none) ∨ ∃ c r,classT classL 3 ((bl s).drop (i + 1)) = some ((3,c),r) ∧ classT classL 5 ((bl s).drop (i + 1)) = some ((5,c),r):=by
     unfold classT
     cases untilL 59 ((bl s).drop (i + 1)) with
     | none => exact .inl ⟨rfl,rfl⟩
     | some p =>
      obtain ⟨nm,r⟩:=p
      by_cases hc : classL nm = true
      ·
       exact .inr ⟨nm,r,by simp [hc],by simp [hc]⟩
      ·
       exact .inl ⟨by simp [hc],by simp [hc]⟩
    rcases hcase with ⟨g1,g2⟩|⟨c,r,g1,g2⟩
    ·
     rw [g1] at HO1
     rw [g2]
     have HO:=aq HO1
     clear HO1
     go_enter Try.func119,Try.ntmps119
     go_wp2_with (first|(go_at_call 113;refine (HB.out _ _ hS0).mono ?_;rintro e w1 ⟨rfl,hD1⟩;have hS0:=scan_drawn hS0 hD1;have hG:=hG.trans (grown_of_below hD1.below _))|(go_at_call 111;refine (kind_unless _ _).mono ?_;rintro e w2 ⟨rfl,rfl⟩)|(go_at_call 114;refine (HO.out _ (max_grown hM0 hb hG) hS0).mono ?_;rintro e w3 ⟨hg3,rfl⟩;have hG:=hG.trans hg3))
     exact ⟨rfl,grown_res hG,rfl⟩
    ·
     rw [g1] at HO1
     rw [g2]
     have HO:=aq HO1
     clear HO1
     go_enter Try.func119,Try.ntmps119
     go_wp2_with (first|(go_at_call 113;refine (HB.out _ _ hS0).mono ?_;rintro e w1 ⟨rfl,hD1⟩;have hS0:=scan_drawn hS0 hD1;have hG:=hG.trans (grown_of_below hD1.below _))|(go_at_call 111;refine (kind_unless _ _).mono ?_;rintro e w2 ⟨rfl,rfl⟩)|(go_at_call 114;refine (HO.out _ (max_grown hM0 hb hG) hS0).mono ?_;rintro e w3 ⟨hg3,rfl,hs3⟩;have hG:=hG.trans hg3;obtain ⟨c0,c1,f0,f1⟩:=res_cells (HR.out w3 hG);have hlt3:=HL.out w3 hG))
     obtain ⟨d0,d1⟩:=res_two (.int .i64 5) (.string (lb c)) (.cells #[.int .i64 5,.string (lb c)] 97) hlt3 c0 c1
     refine ⟨rfl,.agg #[.int .i64 5,.string (lb c)],by simp [results,Try.results119,go_sem,d0,d1],?_⟩
     exact ⟨(grown_res2 hG _ _).trans (World.grownBy_alloc _ _ _),rfl,scan_alloc (scan_far (scan_far hs3 (p:=⟨w.heap.size,0,none⟩) (by simp;omega) _) (p:=⟨w.heap.size,1,none⟩) (by simp;omega) _) _⟩
   ·
    have hf : flatT classL 2 (x :: (bl s).drop (i + 1)) = none:=by simp [flatT,e1,e2]
    rw [hf]
    have q1 : ((x.toNat : Int) == 73) = false:=beq_eq_false_iff_ne.2 (fun e => e1 (byte_of e))
    have q2 : ((x.toNat : Int) == 76) = false:=beq_eq_false_iff_ne.2 (fun e => e2 (byte_of e))
    clear HO0
    go_enter Try.func119,Try.ntmps119
    go_wp2_with (first|(go_at_call 113;refine (HB.out _ _ hS0).mono ?_;rintro e w1 ⟨rfl,hD1⟩;have hS0:=scan_drawn hS0 hD1;have hG:=hG.trans (grown_of_below hD1.below _))|(go_at_call 111;refine (kind_unless_not _ _).mono ?_;rintro e w2 ⟨rfl,rfl⟩))
    exact ⟨rfl,grown_res hG,rfl⟩
theorem scan_one (b : Nat) (s : ByteArray) (i : Nat) (w : World) (hM : MaxL w) (hb : 0 ≠ b) (h : Scan w b s i) (hi : i ≤ s.size) (hm : s.size ≤ 1048576) :
  Calls Try.prog 114 #[.pointer (some ⟨b,0,none⟩)] w (endS b s w (oneT classL ((bl s).drop i))) :=
 one_any b s i w hM hb h hi hm (fun W hW hMW ⟨l,e⟩ => scan_array b s (i + 1) W hMW hb hW (by
  have:=congrArg List.length e
  rw [List.length_drop,bl_len] at this
  simp at this
  omega) hm)
end Go.Proofs.Ytfplcohjnlbfjaa.Hand
end

section
namespace Go.Proofs.Ytfplcohjnlbfjaa.Hand
open Go.RowKit Go.Shelf Go.Proofs.YtfplcohjnlbfjaaW.PrintWords Go.Proofs.YtfplcohjnlbfjaaW.PrintLast Go.Proofs.YtfplcohjnlbfjaaW.PrintMore
theorem catch_wrong (pb : Nat) (x e : Int) (older : List PanicEntry) (w : World) (hc : w.cell? ⟨pb, 0, none⟩ = some (.int .i64 x)) (hz : w.frozen? ⟨pb, 0, none⟩ = false) :
  CallsD Try.prog 117 #[.pointer (some ⟨pb,0,none⟩)] (.panicking ({ v:=.iface 151 (.agg #[.int .i64 e]),recovered:=false } :: older)) w fun x' u' w' =>
   x' = .returned (.tuple #[]) ∧ u' = .panicking ({ v:=.iface 151 (.agg #[.int .i64 e]),recovered:=true } :: older) ∧ w' = (w.alloc (.cells #[.int .i64 e] 151)).setCell ⟨pb,0,none⟩ (.int .i64 e):=by
 have hq : ∀ (w : World),(binOp .eql 20 (.iface 151 (.agg #[.int .i64 e])) .nilIface).run Try.prog w = .ok (.bool false) w:=fun _ => by kernel_rfl
 have hta : ∀ (w : World),(Instr.typeAssert (.iface 151 (.agg #[.int .i64 e])) 20 151 true).run Try.prog w = .ok (.tuple #[.agg #[.int .i64 e],.bool true]) w:=fun _ => by kernel_rfl
 have hlt : pb < w.heap.size:=World.block_lt_of_cell? w _ hc
 refine callsD_of_wpS Try.func117 rfl fun c₀ cs hu => ?_
 apply wpS_seq
 apply wpS_region
 simp [wpOpsS,go_sem,recoverD,hu,Try.ntmps117,Exit.thenS]
 refine wpS_of_wp ?_
 simp only [List.size_toArray,List.length_cons,List.length_nil,Nat.reduceAdd,Nat.reduceSub,Array.replicate_succ,Array.replicate_zero,List.push_toArray,List.append_toArray,List.nil_append,List.cons_append,List.setIfInBounds_toArray,List.set_cons_zero,List.set_cons_succ]
 go_wp2
 cases c₀
 simp_all [bodyPostS,results,Try.results117,go_sem]
theorem catch_idle (p : Addr) (w : World) :
  CallsD Try.prog 117 #[.pointer (some p)] .returning w fun x' u' w' => x' = .returned (.tuple #[]) ∧ u' = .returning ∧ w' = w:=by
 have hq : ∀ (w : World),(binOp .eql 20 .nilIface .nilIface).run Try.prog w = .ok (.bool true) w:=fun _ => by kernel_rfl
 refine callsD_of_wpS Try.func117 rfl fun c₀ cs hu => ?_
 apply wpS_seq
 apply wpS_region
 simp [wpOpsS,go_sem,recoverD,hu,Try.ntmps117,Exit.thenS]
 refine wpS_of_wp ?_
 go_wp2
 cases c₀
 simp_all [bodyPostS,results,Try.results117,go_sem]
theorem caught_ok (g : FuncId) (ls : Array Value) (w : World) (R : World → Prop) (he : ∀ W, (callFunc g ls).run Try.prog W = .ok (.enter g ls) W)
  (hC : Calls Try.prog g ls (w.alloc (.cells #[.int .i64 0] 65)) fun x w' => x = .returned (.tuple #[]) ∧ R w')
  (hR : ∀ w',R w' → w'.cell? ⟨w.heap.size,0,none⟩ = some (.int .i64 0) ∧ w'.frozen? ⟨w.heap.size,0,none⟩ = false) :
  Calls Try.prog 109 #[.func (.func g) #[] ls] w fun x w' => x = .returned (.int .i64 0) ∧ ∃ w1,R w1 ∧ w' = w1.setCell ⟨w.heap.size,0,none⟩ (.int .i64 0):=by
 have hmf : ∀ (fn : Fn) (first cap : Array Value) (w : World),(Instr.makeFunc fn first cap).run Try.prog w = .ok (.func fn first cap) w:=fun _ _ _ _ => rfl
 go_enter_defers Try.func109,Try.ntmps109
 go_wp2
 refine hC.mono ?_
 rintro e w1 ⟨rfl,hr⟩
 obtain ⟨c0,f0⟩:=hR w1 hr
 go_wp2
 refine leaves_cons (f:=117) (args:=#[.pointer (some ⟨w.heap.size,0,none⟩)]) (by simp) (by simp [go_sem]) ?_
 refine (catch_idle ⟨w.heap.size,0,none⟩ _).mono ?_
 rintro e u' w'' ⟨rfl,rfl,rfl⟩
 simp [Leaves,settle,results,Try.results109,go_sem,c0]
 exact ⟨w1,hr,rfl⟩
theorem caught_not (g : FuncId) (ls : Array Value) (w : World) (x : Int) (R : World → Prop) (he : ∀ W, (callFunc g ls).run Try.prog W = .ok (.enter g ls) W)
  (hC : Calls Try.prog g ls (w.alloc (.cells #[.int .i64 0] 65)) fun y w' => y = .panicked (WrongE x) ∧ R w')
  (hR : ∀ w',R w' → w'.cell? ⟨w.heap.size,0,none⟩ = some (.int .i64 0) ∧ w'.frozen? ⟨w.heap.size,0,none⟩ = false) :
  Calls Try.prog 109 #[.func (.func g) #[] ls] w fun y w' => y = .returned (.int .i64 x) ∧ ∃ w1,R w1 ∧ w' = (w1.alloc (.cells #[.int .i64 x] 151)).setCell ⟨w.heap.size,0,none⟩ (.int .i64 x):=by
 have hmf : ∀ (fn : Fn) (first cap : Array Value) (w : World),(Instr.makeFunc fn first cap).run Try.prog w = .ok (.func fn first cap) w:=fun _ _ _ _ => rfl
 go_enter_defers Try.func109,Try.ntmps109
 go_wp2
 refine hC.mono ?_
 rintro e w1 ⟨rfl,hr⟩
 obtain ⟨c0,f0⟩:=hR w1 hr
 have hlt:=World.block_lt_of_cell? w1 _ c0
 refine leaves_cons (f:=117) (args:=#[.pointer (some ⟨w.heap.size,0,none⟩)]) (by simp) (by simp [go_sem]) ?_
 refine (catch_wrong w.heap.size 0 x [] _ c0 f0).mono ?_
 rintro e u' w'' ⟨rfl,rfl,rfl⟩
 have c1 : (w1.alloc (.cells #[.int .i64 x] 151)).cell? ⟨w.heap.size,0,none⟩ = some (.int .i64 0):=by rw [World.cell?_alloc_past _ _ _ hlt];exact c0
 simp [Leaves,settle,results,Try.results109,go_sem,c1]
 exact ⟨w1,hr,rfl⟩
end Go.Proofs.Ytfplcohjnlbfjaa.Hand
end

section
namespace Go.Proofs.Ytfplcohjnlbfjaa.Hand
open Go.RowKit Go.Shelf Go.Proofs.YtfplcohjnlbfjaaW.PrintWords Go.Proofs.YtfplcohjnlbfjaaW.PrintLast Go.Proofs.YtfplcohjnlbfjaaW.PrintMore
def TyAt (w : World) (g : Nat) (t : Ty) : Prop := w.heap[g]? = some (.cells #[.int .i64 t.1, .string (lb t.2)] 97 (0, 0))
theorem ty_cells {w : World} {g : Nat} {t : Ty} (h : TyAt w g t) : w.cell? ⟨g, 0, none⟩ = some (.int .i64 t.1) ∧ w.cell? ⟨g, 1, none⟩ = some (.string (lb t.2)) ∧ w.frozen? ⟨g, 0, none⟩ = false ∧ w.frozen? ⟨g, 1, none⟩ = false := by
 have h0:=blk_cell h 0
 have h1:=blk_cell h 1
 simp only [List.getElem?_toArray,List.getElem?_cons_zero,List.getElem?_cons_succ] at h0 h1
 exact ⟨h0,h1,blk_frozen h 0,blk_frozen h 1⟩
theorem ty_kept {w w' : World} {g : Nat} {r : Option Nat} {t : Ty} (h : TyAt w g t) (hg : w.grownBy w' r) (hne : some g ≠ r) : TyAt w' g t := by
 unfold TyAt at h ⊢
 rw [hg.block g (Array.getElem?_eq_some_iff.1 h).1 hne]
 exact h
theorem ty_set {w : World} {g : Nat} {t : Ty} (h : TyAt w g t) (k : Int) (c : List UInt8) : TyAt ((w.setCell ⟨g, 0, none⟩ (.int .i64 k)).setCell ⟨g, 1, none⟩ (.string (lb c))) g (k, c) := by
 have h2:=blk_set (blk_set h 0 (.int .i64 k)) 1 (.string (lb c))
 simp only [List.setIfInBounds_toArray,List.set_cons_zero,List.set_cons_succ] at h2
 exact h2
theorem max_ne {w : World} (h : MaxL w) : (0 : Nat) ≠ w.heap.size := by
 obtain ⟨m,hm⟩:=h
 have:=World.block_lt_of_cell? w _ hm
 simp at this
 omega
theorem max_alloc {w : World} (h : MaxL w) (o : Obj) : MaxL (w.alloc o) := max_grown h (b := w.heap.size) (max_ne h) (World.grownBy_alloc w o _)
end Go.Proofs.Ytfplcohjnlbfjaa.Hand
end

section
namespace Go.Proofs.Ytfplcohjnlbfjaa.Q7
open Go.RowKit Go.Proofs.YtfplcohjnlbfjaaW
open PrintWords PrintLast PrintMore Go.Proofs.Ytfplcohjnlbfjaa.Hand
attribute [local go_sem] max2_int min2_int max_two min_two max_three min_three max_four min_four
def errW : Option Int → Value
  | none => .nilIface
  | some c => .iface 0 (.int .i64 c)
theorem errW_none : errW none = .nilIface := rfl
theorem errW_some (c : Int) : errW (some c) = .iface 0 (.int .i64 c) := rfl
theorem eqA97 (d : Nat) (w : World) (x0 y0 : Int) (x1 y1 : ByteArray) :
    (Op.equalIn (d + 2) 97 (.agg #[.int .i64 x0,.string x1]) (.agg #[.int .i64 y0,.string y1])).run Try.prog w = .ok (x0 == y0 && (x1.toList == y1.toList)) w:=by
 refine eqA_of Try.underlying97 (by kernel_rfl) ?_
 refine eqf_cons (by rfl) (by go_simp;rfl) (by go_simp;rfl) (by go_simp) ?_
 exact eqf_last (by rfl) (by go_simp;rfl) (by go_simp;rfl) (by go_simp)
end Go.Proofs.Ytfplcohjnlbfjaa.Q7
end

section
namespace Go.Proofs.Ytfplcohjnlbfjaa.Q7
open Go.RowKit Go.Proofs.YtfplcohjnlbfjaaW
open PrintWords PrintLast PrintMore Go.Proofs.Ytfplcohjnlbfjaa.Hand
attribute [local go_sem] max2_int min2_int max_two min_two max_three min_three max_four min_four
attribute [local go_sem high] eqA97
def kind_Right.f (a0_0 : Int) (a0_1 : ByteArray) : Option (Bool) := if a0_0 = 3 then ((word_Class.f a0_1).bind fun t102 => (some t102)) else (if a0_0 = 5 then ((word_Class.f a0_1).bind fun t103 => (some t103)) else (if (a0_1.toList == ([] : List UInt8)) = true then (if a0_0 ≥ 1 then (some (decide (a0_0 ≤ 5))) else (some false)) else (some false)))
theorem kind_Right.calls (a0_0 : Int) (a0_1 : ByteArray) (r : Bool) (w : World) (h : kind_Right.f a0_0 a0_1 = some r) :
    Calls Try.prog 88 #[.agg #[.int .i64 a0_0,.string a0_1]] w fun e w' => e = .returned (.bool r) ∧ Below w.heap.size w w':=by
 have hu97:=Try.underlying97
 have HB:=aq (Below.refl w.heap.size w)
 have H : (if a0_0 = 3 then ((word_Class.f a0_1).bind fun t102 => (some t102)) else (if a0_0 = 5 then ((word_Class.f a0_1).bind fun t103 => (some t103)) else (if (a0_1.toList == ([] : List UInt8)) = true then (if a0_0 ≥ 1 then (some (decide (a0_0 ≤ 5))) else (some false)) else (some false)))) = some r:=h
 clear h
 by_cases c2 : a0_0 = 3
 · rw [if_pos c2] at H
   have c2b0 : (a0_0 == 3) = true:=beq_iff_eq.mpr c2
   have c2b1 : (a0_0 != 3) = false:=bne_eq_false_iff_eq.mpr c2
   clear c2
   replace H:=Option.bind_eq_some_iff.mp H
   obtain ⟨t102,A30,H⟩:=H
   have A3:=aq A30
   clear A30
   obtain rfl:=Option.some.inj H
   go_enter Try.func88,Try.ntmps88
   go_wp2_with (first|((with_reducible refine gate_dst (N:=1) rfl ?_);refine box_event rfl (N:=1) rfl (cs:=#[.int .i64 a0_0,.string a0_1]) (t:=97) gS ?_;intro gb101 hg w4 hbox hb;have BK101:=aq (hbox);have GE101:=aq ((GN hg : w.heap.size ≤ gb101));replace HB:=aq (below_step bH hb);clear hb hbox hg;have hcz5_0 : w4.cell? ⟨gb101,0,none⟩ = some (.int .i64 a0_0):=(blk_cell BK101.out 0).trans rfl;have hcz5_1 : w4.cell? ⟨gb101,1,none⟩ = some (.string a0_1):=(blk_cell BK101.out 1).trans rfl;have hfz5_0:=blk_frozen BK101.out 0;have hfz5_1:=blk_frozen BK101.out 1)|((with_reducible refine gate_callee (f:=99) rfl ?_);refine goesL_ (some 10) rfl rfl Try.func99 (by kernel_rfl) rfl #[.string a0_1] rfl eA ?_;(with_reducible refine (word_Class.calls a0_1 t102 _ A3.out).mono ?_);rintro e w' ⟨rfl,⟨nd,rfl⟩⟩;refine ⟨_,rfl,?_⟩))
   go_ret
   exact ⟨eR,bH⟩
 rw [if_neg c2] at H
 have c2b0 : (a0_0 == 3) = false:=beq_eq_false_iff_ne.mpr c2
 have c2b1 : (a0_0 != 3) = true:=bne_iff_ne.mpr c2
 by_cases c6 : a0_0 = 5
 · rw [if_pos c6] at H
   have c6b0 : (a0_0 == 5) = true:=beq_iff_eq.mpr c6
   have c6b1 : (a0_0 != 5) = false:=bne_eq_false_iff_eq.mpr c6
   clear c6
   replace H:=Option.bind_eq_some_iff.mp H
   obtain ⟨t103,A70,H⟩:=H
   have A7:=aq A70
   clear A70
   obtain rfl:=Option.some.inj H
   go_enter Try.func88,Try.ntmps88
   go_wp2_with (first|((with_reducible refine gate_dst (N:=1) rfl ?_);refine box_event rfl (N:=1) rfl (cs:=#[.int .i64 a0_0,.string a0_1]) (t:=97) gS ?_;intro gb101 hg w8 hbox hb;have BK101:=aq (hbox);have GE101:=aq ((GN hg : w.heap.size ≤ gb101));replace HB:=aq (below_step bH hb);clear hb hbox hg;have hcz9_0 : w8.cell? ⟨gb101,0,none⟩ = some (.int .i64 a0_0):=(blk_cell BK101.out 0).trans rfl;have hcz9_1 : w8.cell? ⟨gb101,1,none⟩ = some (.string a0_1):=(blk_cell BK101.out 1).trans rfl;have hfz9_0:=blk_frozen BK101.out 0;have hfz9_1:=blk_frozen BK101.out 1)|((with_reducible refine gate_callee (f:=99) rfl ?_);refine goesL_ (some 10) rfl rfl Try.func99 (by kernel_rfl) rfl #[.string a0_1] rfl eA ?_;(with_reducible refine (word_Class.calls a0_1 t103 _ A7.out).mono ?_);rintro e w' ⟨rfl,⟨nd,rfl⟩⟩;refine ⟨_,rfl,?_⟩))
   go_ret
   exact ⟨eR,bH⟩
 rw [if_neg c6] at H
 have c6b0 : (a0_0 == 5) = false:=beq_eq_false_iff_ne.mpr c6
 have c6b1 : (a0_0 != 5) = true:=bne_iff_ne.mpr c6
 by_cases c10 : (a0_1.toList == ([] : List UInt8)) = true
 rotate_left
 · rw [if_neg c10] at H
   have c10b0 : (a0_1.toList == ([] : List UInt8)) = false:=by simpa using c10
   (try (have c10b1 : decide (a0_1.toList = ([] : List UInt8)) = false:=by simpa using c10))
   (try (have c10b2 : (a0_1.toList == ([] : List UInt8)) = false:=by simpa using c10))
   (try (have c10b3 : ¬ (a0_1.toList = ([] : List UInt8)):=by simpa using c10))
   clear c10
   obtain rfl:=Option.some.inj H
   go_enter Try.func88,Try.ntmps88
   go_wp2_with (first|((with_reducible refine gate_dst (N:=1) rfl ?_);refine box_event rfl (N:=1) rfl (cs:=#[.int .i64 a0_0,.string a0_1]) (t:=97) gS ?_;intro gb101 hg w16 hbox hb;have BK101:=aq (hbox);have GE101:=aq ((GN hg : w.heap.size ≤ gb101));replace HB:=aq (below_step bH hb);clear hb hbox hg;have hcz17_0 : w16.cell? ⟨gb101,0,none⟩ = some (.int .i64 a0_0):=(blk_cell BK101.out 0).trans rfl;have hcz17_1 : w16.cell? ⟨gb101,1,none⟩ = some (.string a0_1):=(blk_cell BK101.out 1).trans rfl;have hfz17_0:=blk_frozen BK101.out 0;have hfz17_1:=blk_frozen BK101.out 1))
   go_ret
   exact ⟨eR,bH⟩
 rw [if_pos c10] at H
 have c10b0 : (a0_1.toList == ([] : List UInt8)) = true:=c10
 (try (have c10b1 : decide (a0_1.toList = ([] : List UInt8)) = true:=by simpa using c10))
 (try (have c10b2 : (a0_1.toList == ([] : List UInt8)) = true:=by simpa using c10))
 clear c10
 by_cases c11 : a0_0 ≥ 1
 · rw [if_pos c11] at H
   have c11b0 : decide (1 ≤ a0_0) = true:=decide_eq_true c11
   clear c11
   obtain rfl:=Option.some.inj H
   go_enter Try.func88,Try.ntmps88
   go_wp2_with (first|((with_reducible refine gate_dst (N:=1) rfl ?_);refine box_event rfl (N:=1) rfl (cs:=#[.int .i64 a0_0,.string a0_1]) (t:=97) gS ?_;intro gb101 hg w12 hbox hb;have BK101:=aq (hbox);have GE101:=aq ((GN hg : w.heap.size ≤ gb101));replace HB:=aq (below_step bH hb);clear hb hbox hg;have hcz13_0 : w12.cell? ⟨gb101,0,none⟩ = some (.int .i64 a0_0):=(blk_cell BK101.out 0).trans rfl;have hcz13_1 : w12.cell? ⟨gb101,1,none⟩ = some (.string a0_1):=(blk_cell BK101.out 1).trans rfl;have hfz13_0:=blk_frozen BK101.out 0;have hfz13_1:=blk_frozen BK101.out 1))
   go_ret
   exact ⟨eR,bH⟩
 rw [if_neg c11] at H
 have c11b0 : decide (1 ≤ a0_0) = false:=decide_eq_false c11
 clear c11
 obtain rfl:=Option.some.inj H
 go_enter Try.func88,Try.ntmps88
 go_wp2_with (first|((with_reducible refine gate_dst (N:=1) rfl ?_);refine box_event rfl (N:=1) rfl (cs:=#[.int .i64 a0_0,.string a0_1]) (t:=97) gS ?_;intro gb101 hg w14 hbox hb;have BK101:=aq (hbox);have GE101:=aq ((GN hg : w.heap.size ≤ gb101));replace HB:=aq (below_step bH hb);clear hb hbox hg;have hcz15_0 : w14.cell? ⟨gb101,0,none⟩ = some (.int .i64 a0_0):=(blk_cell BK101.out 0).trans rfl;have hcz15_1 : w14.cell? ⟨gb101,1,none⟩ = some (.string a0_1):=(blk_cell BK101.out 1).trans rfl;have hfz15_0:=blk_frozen BK101.out 0;have hfz15_1:=blk_frozen BK101.out 1))
 go_ret
 exact ⟨eR,bH⟩
def kind_Element.f (a0_0 : Int) (a0_1 : ByteArray) : Option (Int × ByteArray) := if a0_0 = 4 then (some (2, (⟨#[]⟩ : ByteArray))) else (if a0_0 = 5 then (some (3, a0_1)) else (some (0, (⟨#[]⟩ : ByteArray))))
theorem kind_Element.calls (a0_0 : Int) (a0_1 : ByteArray) (r1 : Int) (r2 : ByteArray) (w : World) (h : kind_Element.f a0_0 a0_1 = some (r1, r2)) :
    Calls Try.prog 89 #[.agg #[.int .i64 a0_0,.string a0_1]] w fun e w' => e = .returned (.agg #[.int .i64 r1,.string r2]) ∧ Below w.heap.size w w':=by
 have hu97:=Try.underlying97
 have HB:=aq (Below.refl w.heap.size w)
 have H : (if a0_0 = 4 then (some (2,(⟨#[]⟩ : ByteArray))) else (if a0_0 = 5 then (some (3,a0_1)) else (some (0,(⟨#[]⟩ : ByteArray))))) = some (r1,r2):=h
 clear h
 by_cases c2 : a0_0 = 4
 · rw [if_pos c2] at H
   have c2b0 : (a0_0 == 4) = true:=beq_iff_eq.mpr c2
   have c2b1 : (a0_0 != 4) = false:=bne_eq_false_iff_eq.mpr c2
   clear c2
   simp only [Option.some.injEq,Prod.mk.injEq] at H
   obtain ⟨rfl,rfl⟩:=H
   go_enter Try.func89,Try.ntmps89
   go_wp2_with (first|((with_reducible refine gate_dst (N:=1) rfl ?_);refine box_event rfl (N:=1) rfl (cs:=#[.int .i64 a0_0,.string a0_1]) (t:=97) gS ?_;intro gb104 hg w3 hbox hb;have BK104:=aq (hbox);have GE104:=aq ((GN hg : w.heap.size ≤ gb104));replace HB:=aq (below_step bH hb);clear hb hbox hg)|((with_reducible refine gate_dst (N:=2) rfl ?_);refine box_event rfl (N:=2) rfl (cs:=#[.int .i64 0,.string (⟨#[]⟩ : ByteArray)]) (t:=97) gS ?_;intro gb105 hg w4 hbox hb;have BK105:=aq (hbox);have GE105:=aq ((GN hg : w.heap.size ≤ gb105));have NB104_105:=aq (NL hg BK104);have NB105_104:=aq (NG hg BK104);replace BK104:=KN BK104 hb;replace HB:=aq (below_step bH hb);clear hb hbox hg;have hnb5:=NB104_105.out;have hnc5:=NB105_104.out;have hcz6_0 : w4.cell? ⟨gb104,0,none⟩ = some (.int .i64 a0_0):=(blk_cell BK104.out 0).trans rfl;have hcz6_1 : w4.cell? ⟨gb104,1,none⟩ = some (.string a0_1):=(blk_cell BK104.out 1).trans rfl;have hfz6_0:=blk_frozen BK104.out 0;have hfz6_1:=blk_frozen BK104.out 1;have hcz7_0 : w4.cell? ⟨gb105,0,none⟩ = some (.int .i64 0):=(blk_cell BK105.out 0).trans rfl;have hcz7_1 : w4.cell? ⟨gb105,1,none⟩ = some (.string (⟨#[]⟩ : ByteArray)):=(blk_cell BK105.out 1).trans rfl;have hfz7_0:=blk_frozen BK105.out 0;have hfz7_1:=blk_frozen BK105.out 1))
   refine bodyPost_ret (results_cell_row rfl _ _ gb105 97 #[.int .i64 2,.string (⟨#[]⟩ : ByteArray)] (0,0) _ rfl (by refine KU ?_;refine blk_put (cs:=#[.int .i64 2,.string (⟨#[]⟩ : ByteArray)]) ?_ 1 _ rfl;refine KU ?_;refine blk_put (cs:=#[.int .i64 0,.string (⟨#[]⟩ : ByteArray)]) ?_ 0 _ rfl;refine KU ?_;exact BK105.out) Try.underlying97 rfl (by kernel_rfl)) rfl ?_
   exact ⟨eR,bH⟩
 rw [if_neg c2] at H
 have c2b0 : (a0_0 == 4) = false:=beq_eq_false_iff_ne.mpr c2
 have c2b1 : (a0_0 != 4) = true:=bne_iff_ne.mpr c2
 by_cases c8 : a0_0 = 5
 · rw [if_pos c8] at H
   have c8b0 : (a0_0 == 5) = true:=beq_iff_eq.mpr c8
   have c8b1 : (a0_0 != 5) = false:=bne_eq_false_iff_eq.mpr c8
   clear c8
   simp only [Option.some.injEq,Prod.mk.injEq] at H
   obtain ⟨rfl,rfl⟩:=H
   go_enter Try.func89,Try.ntmps89
   go_wp2_with (first|((with_reducible refine gate_dst (N:=1) rfl ?_);refine box_event rfl (N:=1) rfl (cs:=#[.int .i64 a0_0,.string a0_1]) (t:=97) gS ?_;intro gb104 hg w9 hbox hb;have BK104:=aq (hbox);have GE104:=aq ((GN hg : w.heap.size ≤ gb104));replace HB:=aq (below_step bH hb);clear hb hbox hg)|((with_reducible refine gate_dst (N:=2) rfl ?_);refine box_event rfl (N:=2) rfl (cs:=#[.int .i64 0,.string (⟨#[]⟩ : ByteArray)]) (t:=97) gS ?_;intro gb105 hg w10 hbox hb;have BK105:=aq (hbox);have GE105:=aq ((GN hg : w.heap.size ≤ gb105));have NB104_105:=aq (NL hg BK104);have NB105_104:=aq (NG hg BK104);replace BK104:=KN BK104 hb;replace HB:=aq (below_step bH hb);clear hb hbox hg;have hnb11:=NB104_105.out;have hnc11:=NB105_104.out;have hcz12_0 : w10.cell? ⟨gb104,0,none⟩ = some (.int .i64 a0_0):=(blk_cell BK104.out 0).trans rfl;have hcz12_1 : w10.cell? ⟨gb104,1,none⟩ = some (.string a0_1):=(blk_cell BK104.out 1).trans rfl;have hfz12_0:=blk_frozen BK104.out 0;have hfz12_1:=blk_frozen BK104.out 1;have hcz13_0 : w10.cell? ⟨gb105,0,none⟩ = some (.int .i64 0):=(blk_cell BK105.out 0).trans rfl;have hcz13_1 : w10.cell? ⟨gb105,1,none⟩ = some (.string (⟨#[]⟩ : ByteArray)):=(blk_cell BK105.out 1).trans rfl;have hfz13_0:=blk_frozen BK105.out 0;have hfz13_1:=blk_frozen BK105.out 1))
   refine bodyPost_ret (results_cell_row rfl _ _ gb105 97 #[.int .i64 3,.string a0_1] (0,0) _ rfl (by refine KU ?_;refine blk_put (cs:=#[.int .i64 3,.string (⟨#[]⟩ : ByteArray)]) ?_ 1 _ rfl;refine KU ?_;refine blk_put (cs:=#[.int .i64 0,.string (⟨#[]⟩ : ByteArray)]) ?_ 0 _ rfl;refine KU ?_;exact BK105.out) Try.underlying97 rfl (by kernel_rfl)) rfl ?_
   exact ⟨eR,bH⟩
 rw [if_neg c8] at H
 have c8b0 : (a0_0 == 5) = false:=beq_eq_false_iff_ne.mpr c8
 have c8b1 : (a0_0 != 5) = true:=bne_iff_ne.mpr c8
 simp only [Option.some.injEq,Prod.mk.injEq] at H
 obtain ⟨rfl,rfl⟩:=H
 go_enter Try.func89,Try.ntmps89
 go_wp2_with (first|((with_reducible refine gate_dst (N:=1) rfl ?_);refine box_event rfl (N:=1) rfl (cs:=#[.int .i64 a0_0,.string a0_1]) (t:=97) gS ?_;intro gb104 hg w14 hbox hb;have BK104:=aq (hbox);have GE104:=aq ((GN hg : w.heap.size ≤ gb104));replace HB:=aq (below_step bH hb);clear hb hbox hg)|((with_reducible refine gate_dst (N:=2) rfl ?_);refine box_event rfl (N:=2) rfl (cs:=#[.int .i64 0,.string (⟨#[]⟩ : ByteArray)]) (t:=97) gS ?_;intro gb105 hg w15 hbox hb;have BK105:=aq (hbox);have GE105:=aq ((GN hg : w.heap.size ≤ gb105));have NB104_105:=aq (NL hg BK104);have NB105_104:=aq (NG hg BK104);replace BK104:=KN BK104 hb;replace HB:=aq (below_step bH hb);clear hb hbox hg;have hnb16:=NB104_105.out;have hnc16:=NB105_104.out;have hcz17_0 : w15.cell? ⟨gb104,0,none⟩ = some (.int .i64 a0_0):=(blk_cell BK104.out 0).trans rfl;have hcz17_1 : w15.cell? ⟨gb104,1,none⟩ = some (.string a0_1):=(blk_cell BK104.out 1).trans rfl;have hfz17_0:=blk_frozen BK104.out 0;have hfz17_1:=blk_frozen BK104.out 1;have hcz18_0 : w15.cell? ⟨gb105,0,none⟩ = some (.int .i64 0):=(blk_cell BK105.out 0).trans rfl;have hcz18_1 : w15.cell? ⟨gb105,1,none⟩ = some (.string (⟨#[]⟩ : ByteArray)):=(blk_cell BK105.out 1).trans rfl;have hfz18_0:=blk_frozen BK105.out 0;have hfz18_1:=blk_frozen BK105.out 1))
 refine bodyPost_ret (results_cell_row rfl _ _ gb105 97 #[.int .i64 0,.string (⟨#[]⟩ : ByteArray)] (0,0) _ rfl (by refine KU ?_;refine blk_put (cs:=#[.int .i64 0,.string (⟨#[]⟩ : ByteArray)]) ?_ 1 _ rfl;refine KU ?_;refine blk_put (cs:=#[.int .i64 0,.string (⟨#[]⟩ : ByteArray)]) ?_ 0 _ rfl;refine KU ?_;exact BK105.out) Try.underlying97 rfl (by kernel_rfl)) rfl ?_
 exact ⟨eR,bH⟩
def kind_param.f (a0_0 : Int) (a0_1 : ByteArray) : Option (Bool) := (kind_Right.f a0_0 a0_1).bind fun t107 => (if t107 = true then (some (a0_0 != 1)) else (some false))
theorem kind_param.calls (a0_0 : Int) (a0_1 : ByteArray) (r : Bool) (w : World) (h : kind_param.f a0_0 a0_1 = some r) :
    Calls Try.prog 115 #[.agg #[.int .i64 a0_0,.string a0_1]] w fun e w' => e = .returned (.bool r) ∧ Below w.heap.size w w':=by
 have hu97:=Try.underlying97
 have HB:=aq (Below.refl w.heap.size w)
 have H : ((kind_Right.f a0_0 a0_1).bind fun t107 => (if t107 = true then (some (a0_0 != 1)) else (some false))) = some r:=h
 clear h
 replace H:=Option.bind_eq_some_iff.mp H
 obtain ⟨t107,A20,H⟩:=H
 have A2:=aq A20
 clear A20
 by_cases c3 : t107 = true
 rotate_left
 · replace c3:=Bool.eq_false_iff.mpr c3
   subst c3
   have H1 : (some false) = some r:=by rw [if_neg (show ¬ (false = true) by decide)] at H;exact H
   clear H
   have H:=H1
   clear H1
   obtain rfl:=Option.some.inj H
   go_enter Try.func115,Try.ntmps115
   go_wp2_with (first|((with_reducible refine gate_dst (N:=1) rfl ?_);refine box_event rfl (N:=1) rfl (cs:=#[.int .i64 a0_0,.string a0_1]) (t:=97) gS ?_;intro gb106 hg w8 hbox hb;have BK106:=aq (hbox);have GE106:=aq ((GN hg : w.heap.size ≤ gb106));replace HB:=aq (below_step bH hb);clear hb hbox hg;have hcz9_0 : w8.cell? ⟨gb106,0,none⟩ = some (.int .i64 a0_0):=(blk_cell BK106.out 0).trans rfl;have hcz9_1 : w8.cell? ⟨gb106,1,none⟩ = some (.string a0_1):=(blk_cell BK106.out 1).trans rfl;have hfz9_0:=blk_frozen BK106.out 0;have hfz9_1:=blk_frozen BK106.out 1)|((with_reducible refine gate_callee (f:=88) rfl ?_);refine goesL_ (some 4) rfl rfl Try.func88 (by kernel_rfl) rfl #[.agg #[.int .i64 a0_0,.string a0_1]] rfl eA ?_;(with_reducible refine (kind_Right.calls a0_0 a0_1 false _ A2.out).mono ?_);rintro e w10 ⟨rfl,hb⟩;refine ⟨_,rfl,?_⟩;replace BK106:=KN BK106 hb;replace HB:=aq (below_step bH hb);(try clear hb);(try clear hb2);(try clear hk);(try clear hi)))
   go_ret
   exact ⟨eR,bH⟩
 subst c3
 have H1 : (some (a0_0 != 1)) = some r:=by rw [if_pos rfl] at H;exact H
 clear H
 have H:=H1
 clear H1
 obtain rfl:=Option.some.inj H
 go_enter Try.func115,Try.ntmps115
 go_wp2_with (first|((with_reducible refine gate_dst (N:=1) rfl ?_);refine box_event rfl (N:=1) rfl (cs:=#[.int .i64 a0_0,.string a0_1]) (t:=97) gS ?_;intro gb106 hg w4 hbox hb;have BK106:=aq (hbox);have GE106:=aq ((GN hg : w.heap.size ≤ gb106));replace HB:=aq (below_step bH hb);clear hb hbox hg;have hcz5_0 : w4.cell? ⟨gb106,0,none⟩ = some (.int .i64 a0_0):=(blk_cell BK106.out 0).trans rfl;have hcz5_1 : w4.cell? ⟨gb106,1,none⟩ = some (.string a0_1):=(blk_cell BK106.out 1).trans rfl;have hfz5_0:=blk_frozen BK106.out 0;have hfz5_1:=blk_frozen BK106.out 1)|((with_reducible refine gate_callee (f:=88) rfl ?_);refine goesL_ (some 4) rfl rfl Try.func88 (by kernel_rfl) rfl #[.agg #[.int .i64 a0_0,.string a0_1]] rfl eA ?_;(with_reducible refine (kind_Right.calls a0_0 a0_1 true _ A2.out).mono ?_);rintro e w6 ⟨rfl,hb⟩;refine ⟨_,rfl,?_⟩;replace BK106:=KN BK106 hb;replace HB:=aq (below_step bH hb);(try clear hb);(try clear hb2);(try clear hk);(try clear hi);have hcz7_0 : w6.cell? ⟨gb106,0,none⟩ = some (.int .i64 a0_0):=(blk_cell BK106.out 0).trans rfl;have hcz7_1 : w6.cell? ⟨gb106,1,none⟩ = some (.string a0_1):=(blk_cell BK106.out 1).trans rfl;have hfz7_0:=blk_frozen BK106.out 0;have hfz7_1:=blk_frozen BK106.out 1))
 go_ret
 exact ⟨eR,bH⟩
end Go.Proofs.Ytfplcohjnlbfjaa.Q7
end

section
namespace Go.Proofs.Ytfplcohjnlbfjaa.Q7
open Go.RowKit Go.Proofs.YtfplcohjnlbfjaaW
open PrintWords PrintLast PrintMore Go.Proofs.Ytfplcohjnlbfjaa.Hand
attribute [local go_sem] max2_int min2_int max_two min_two max_three min_three max_four min_four
end Go.Proofs.Ytfplcohjnlbfjaa.Q7
end

section
namespace Go.Proofs.Ytfplcohjnlbfjaa.Hand
open Go.RowKit Go.Shelf Go.Proofs.YtfplcohjnlbfjaaW.PrintWords Go.Proofs.YtfplcohjnlbfjaaW.PrintLast Go.Proofs.YtfplcohjnlbfjaaW.PrintMore
theorem right_eq (k : Int) (c : ByteArray) (hc : c.size ≤ 9223372036854775807) : Q7.kind_Right.f k c = some (rightT classL (k, bl c)) := by
 unfold Q7.kind_Right.f rightT
 have e : word_Class.f c = some (classL (bl c)):=by unfold word_Class.f;rw [if_pos hc];rfl
 rw [e]
 by_cases h3 : k = 3
 ·
  simp [h3]
 ·
  rw [if_neg h3]
  by_cases h5 : k = 5
  ·
   simp [h5]
  ·
   have e2 : (c.toList == ([] : List UInt8)) = decide (bl c = []):=by
    rw [ByteArray.toList_eq]
    unfold bl
    cases c.data.toList with
    | nil => rfl
    | cons x l => rfl
   rw [if_neg h5,e2]
   rw [if_neg (show ¬ ((k,bl c).1 = 3 ∨ (k,bl c).1 = 5) by simp [h3,h5])]
   by_cases hb : bl c = []
   ·
    rw [if_pos (decide_eq_true hb)]
    by_cases h1 : k ≥ 1
    ·
     rw [if_pos h1];simp [hb,h1]
    ·
     rw [if_neg h1];simp [hb,h1]
   ·
    rw [if_neg (by simp [hb])];simp [hb]
theorem kind_right (k : Int) (c : ByteArray) (w : World) (hc : c.size ≤ 9223372036854775807) :
  Calls Try.prog 88 #[.agg #[.int .i64 k,.string c]] w fun e w' => e = .returned (.bool (rightT classL (k,bl c))) ∧ Below w.heap.size w w' :=
 Q7.kind_Right.calls k c _ w (right_eq k c hc)
theorem kind_param (k : Int) (c : ByteArray) (w : World) (hc : c.size ≤ 9223372036854775807) :
  Calls Try.prog 115 #[.agg #[.int .i64 k,.string c]] w fun e w' => e = .returned (.bool (paramT classL (k,bl c))) ∧ Below w.heap.size w w' :=
 Q7.kind_param.calls k c _ w (by
  unfold Q7.kind_param.f paramT
  rw [right_eq k c hc]
  cases rightT classL (k,bl c) with
  | false => rfl
  | true => by_cases h : k = 1 <;> simp [h])
theorem lb_cat (a b : List UInt8) : lb a ++ lb b = lb (a ++ b) := by
 unfold lb
 apply ByteArray.ext
 simp
theorem ty_below {w w' : World} {g : Nat} {t : Ty} (h : TyAt w g t) (hb : Below w.heap.size w w') : TyAt w' g t := ty_kept h (grown_of_below hb none) (by simp)
theorem text_any (k : Int) (c : ByteArray) (w : World) (hc : c.size ≤ 4611686018427387903)
  (hRec : (k = 4 ∨ k = 5) → ∀ W,Calls Try.prog 71 #[.agg #[.int .i64 (k - 2),.string c]] W fun e w' => e = .returned (.string (lb (textT classL (k - 2,bl c)))) ∧ Below W.heap.size W w') :
  Calls Try.prog 71 #[.agg #[.int .i64 k,.string c]] w fun e w' => e = .returned (.string (lb (textT classL (k,bl c)))) ∧ Below w.heap.size w w':=by
 have hT0 : TyAt (w.alloc (.cells #[.int .i64 k,.string c] 97)) w.heap.size (k,bl c):=by
  unfold TyAt
  rw [lb_bl]
  exact World.alloc_heap_new _ _
 have HRt:=aq (fun W => kind_right k c W (by omega))
 have HT:=aq hT0
 have hR:=right_cases (cls:=classL) (t:=(k,bl c))
 unfold textT
 cases hr : rightT classL (k,bl c) with
 | false =>
  rw [hr] at HRt
  rw [if_neg (by decide)]
  go_enter Try.func71,Try.ntmps71
  go_wp2_with (go_at_call 88;refine (HRt.out _).mono ?_;rintro e w1 ⟨rfl,hb⟩)
  go_ret
  exact ⟨rfl,(below_alloc (Below.refl _ _) _).trans (hb.mono (by simp))⟩
 | true =>
  rw [hr] at HRt
  rw [if_pos rfl]
  rcases hR hr with ⟨e1,e2⟩|⟨e1,e2⟩|⟨e1,e2⟩|⟨e1,e2⟩|⟨e1,e2⟩
  ·
   simp only at e1 e2
   subst e1
   go_enter Try.func71,Try.ntmps71
   go_wp2_with (go_at_call 88;refine (HRt.out _).mono ?_;rintro e w1 ⟨rfl,hb⟩;obtain ⟨c0,c1,f0,f1⟩:=ty_cells (ty_below HT.out hb))
   go_ret
   exact ⟨rfl,(below_alloc (Below.refl _ _) _).trans (hb.mono (by simp))⟩
  ·
   simp only at e1 e2
   subst e1
   go_enter Try.func71,Try.ntmps71
   go_wp2_with (go_at_call 88;refine (HRt.out _).mono ?_;rintro e w1 ⟨rfl,hb⟩;obtain ⟨c0,c1,f0,f1⟩:=ty_cells (ty_below HT.out hb))
   go_ret
   exact ⟨rfl,(below_alloc (Below.refl _ _) _).trans (hb.mono (by simp))⟩
  ·
   simp only at e1 e2
   subst e1
   have hcat : (⟨#[76]⟩ : ByteArray) ++ c ++ ⟨#[59]⟩ = lb (76 :: (bl c ++ [59])):=by
    have:=congrArg (· ++ lb [59]) (lb_cat [76] (bl c))
    rw [lb_bl] at this
    exact this.trans (lb_cat _ _)
   go_enter Try.func71,Try.ntmps71
   go_wp2_with (go_at_call 88;refine (HRt.out _).mono ?_;rintro e w1 ⟨rfl,hb⟩;obtain ⟨c0,c1,f0,f1⟩:=ty_cells (ty_below HT.out hb))
   go_ret
   exact ⟨by rw [← hcat];simp,(below_alloc (Below.refl _ _) _).trans (hb.mono (by simp))⟩
  ·
   simp only at e1 e2
   subst e1
   have ec : c = ⟨#[]⟩:=by rw [← lb_bl c,e2];rfl
   subst ec
   have HE:=aq (fun W => Q7.kind_Element.calls 4 ⟨#[]⟩ 2 ⟨#[]⟩ W rfl)
   have HC:=aq (hRec (.inl rfl))
   go_enter Try.func71,Try.ntmps71
   go_wp2_with (first|(go_at_call 88;refine (HRt.out _).mono ?_;rintro e w1 ⟨rfl,hb⟩;obtain ⟨c0,c1,f0,f1⟩:=ty_cells (ty_below HT.out hb))|(go_at_call 89;refine (HE.out _).mono ?_;rintro e w2 ⟨rfl,hb2⟩)|(go_at_call 71;refine (HC.out _).mono ?_;rintro e w3 ⟨rfl,hb3⟩))
   go_ret
   exact ⟨rfl,(((below_alloc (Below.refl _ _) _).trans (hb.mono (by simp))).trans (hb2.mono (by have:=hb.size;simp at this;omega))).trans (hb3.mono (by have:=hb.size;have:=hb2.size;simp at *;omega))⟩
  ·
   simp only at e1 e2
   subst e1
   have HE:=aq (fun W => Q7.kind_Element.calls 5 c 3 c W rfl)
   have HC:=hRec (.inr rfl)
   have ht3 : textT classL (5 - 2,bl c) = 76 :: (bl c ++ [59]):=by
    unfold textT
    rw [if_pos (by unfold rightT;rw [if_pos (.inl rfl)];exact e2)]
    simp
   rw [ht3] at HC
   replace HC:=aq HC
   have hcat : (⟨#[91]⟩ : ByteArray) ++ lb (76 :: (bl c ++ [59])) = lb (91 :: 76 :: (bl c ++ [59])):=lb_cat [91] _
   have hlen : (lb (76 :: (bl c ++ [59]))).size = c.size + 2:=by
    show (76 :: (bl c ++ [59])).length = _
    simp [bl_len]
   go_enter Try.func71,Try.ntmps71
   go_wp2_with (first|(go_at_call 88;refine (HRt.out _).mono ?_;rintro e w1 ⟨rfl,hb⟩;obtain ⟨c0,c1,f0,f1⟩:=ty_cells (ty_below HT.out hb))|(go_at_call 89;refine (HE.out _).mono ?_;rintro e w2 ⟨rfl,hb2⟩)|(go_at_call 71;refine (HC.out _).mono ?_;rintro e w3 ⟨rfl,hb3⟩))
   go_ret
   exact ⟨by rw [← hcat];simp,(((below_alloc (Below.refl _ _) _).trans (hb.mono (by simp))).trans (hb2.mono (by have:=hb.size;simp at this;omega))).trans (hb3.mono (by have:=hb.size;have:=hb2.size;simp at *;omega))⟩
theorem kind_text (k : Int) (c : ByteArray) (w : World) (hc : c.size ≤ 4611686018427387903) :
  Calls Try.prog 71 #[.agg #[.int .i64 k,.string c]] w fun e w' => e = .returned (.string (lb (textT classL (k,bl c)))) ∧ Below w.heap.size w w' :=
 text_any k c w hc fun h W => text_any (k - 2) c W hc fun h2 W2 => by omega
def toS (t : Ty) : S97 := ⟨t.1, lb t.2⟩
structure Keep2 (W w : World) (p q : Nat) : Prop where
  os : w.os = W.os
  tape : w.tape = W.tape
  output : w.output = W.output
  size : W.heap.size ≤ w.heap.size
  block : ∀ k,k < W.heap.size → k ≠ p → k ≠ q → w.heap[k]? = W.heap[k]?
theorem Keep2.grown {W w w' : World} {p q : Nat} {r : Option Nat} (h : Keep2 W w p q) (hg : w.grownBy w' r) (hr : ∀ k, r = some k → k = p ∨ k = q ∨ W.heap.size ≤ k) : Keep2 W w' p q :=
  ⟨hg.os.trans h.os,hg.tape.trans h.tape,hg.output.trans h.output,Nat.le_trans h.size hg.size,fun k hk hp hq => (hg.block k (Nat.lt_of_lt_of_le hk h.size) (fun e => by rcases hr k e.symm with e1|e1|e1;exact hp e1;exact hq e1;omega)).trans (h.block k hk hp hq)⟩
theorem Keep2.refl (W : World) (p q : Nat) : Keep2 W W p q := ⟨rfl, rfl, rfl, Nat.le_refl _, fun _ _ _ _ => rfl⟩
theorem one_right {l : List UInt8} {t : Ty} {r : List UInt8} (h : oneT classL l = some (t, r)) : rightT classL t = true := by
  cases l with
  | nil => cases h
  | cons x l =>
    unfold oneT at h
    dsimp only at h
    by_cases e : x = 91
    · rw [if_pos e] at h
      exact (flat_back2 h).1
    · rw [if_neg e] at h
      exact (flat_back0 h).1
theorem one_short {l : List UInt8} {t : Ty} {r : List UInt8} (h : oneT classL l = some (t, r)) : t.2.length + r.length < l.length := by
  obtain ⟨h1,h2⟩:=one_back h
  obtain ⟨k,c⟩:=t
  have : c.length < (textT classL (k,c)).length:=by
    unfold textT
    rw [if_pos h1]
    rcases right_cases h1 with ⟨e1,e2⟩|⟨e1,e2⟩|⟨e1,e2⟩|⟨e1,e2⟩|⟨e1,e2⟩ <;> simp only at e1 e2 <;> subst e1 <;> simp [*] <;> omega
  rw [h2]
  simp
  omega
theorem scan_drawnB {w w' : World} {b : Nat} {s : ByteArray} {i : Nat} (h : Scan w b s i) (hd : Below w.heap.size w w') : Scan w' b s i := by
  unfold Scan at h ⊢
  rw [hd.block b (Array.getElem?_eq_some_iff.1 h).1]
  exact h
theorem one_drop {s : ByteArray} {i : Nat} {t : Ty} {r : List UInt8} (h : oneT classL ((bl s).drop i) = some (t, r)) : (bl s).drop (s.size - r.length) = r := by
  obtain ⟨h1,h2⟩:=one_back h
  have h3 : (bl s).take i ++ textT classL t ++ r = bl s:=by rw [List.append_assoc,← h2,List.take_append_drop]
  have h4:=congrArg List.length h3
  rw [List.length_append,bl_len] at h4
  rw [← h3,List.drop_append_of_le_length (by rw [← h4];omega),List.drop_of_length_le (by rw [← h4];omega),List.nil_append]
structure SplitW (W : World) (bp br : Nat) (wr : World) (ps : List Ty) (v : Value) : Prop where
  box : Boxed wr bp 94 v
  row : Kd.R k97 97 wr (W.heap.size + 1) (fun k => W.heap.size < k) v (ps.map toS)
  ret : ∃ t,TyAt wr br t
  keep : Keep2 W wr bp br
  big : W.heap.size + 1 ≤ wr.heap.size
structure SplitI (W : World) (bp br : Nat) (s : ByteArray) (l0 : List UInt8) (k : Nat) (wr : World) (i : Nat) (ps : List Ty) (v : Value) : Prop where
  scan : Scan wr W.heap.size s i
  le : i ≤ s.size
  base : SplitW W bp br wr ps v
  so : typesF classL 65 l0 = (typesF classL k ((bl s).drop i)).map fun p => (ps ++ p.1,p.2)
  cnt : ps.length + k = 65
  adv : ps.length + 1 ≤ i
theorem SplitW.step {W wr w1 : World} {bp br : Nat} {ps : List Ty} {v : Value} (h : SplitW W bp br wr ps v) (hbp : bp < W.heap.size) (hbr : br < W.heap.size) (hg : wr.grownBy w1 (some W.heap.size)) : SplitW W bp br w1 ps v where
  box:=h.box.kept hg (by simp;omega)
  row:=Kd.R_grown h.row hg (fun k hk => by simp;omega)
  ret:=h.ret.imp fun t ht => ty_kept ht hg (by simp;omega)
  keep:=h.keep.grown hg (by simp)
  big:=Nat.le_trans h.big hg.size
theorem Keep2.max {W w : World} {p q : Nat} (h : Keep2 W w p q) (hM : MaxL W) (hp : (0 : Nat) ≠ p) (hq : (0 : Nat) ≠ q) : MaxL w := by
  obtain ⟨m,hm⟩:=hM
  have hl:=World.block_lt_of_cell? W _ hm
  refine ⟨m,?_⟩
  rw [← hm]
  unfold World.cell?
  rw [h.block _ hl hp hq]
def endQ (W : World) (bp br : Nat) (q : List Ty × Ty × Int) (x : Ending) (w' : World) : Prop :=
  Keep2 W w' bp br ∧ (∃ t,TyAt w' br t) ∧ (∃ v,Boxed w' bp 94 v) ∧ if q.2.2 = 0 then x = .returned (.tuple #[]) ∧ TyAt w' br q.2.1 ∧ ∃ v,Boxed w' bp 94 v ∧ Kd.R k97 97 w' (W.heap.size + 1) (fun _ => True) v (q.1.map toS)
    else x = .panicked (WrongE q.2.2)
theorem SplitW.panic {W w : World} {bp br : Nat} {ps : List Ty} {v : Value} (h : SplitW W bp br w ps v) {q : List Ty × Ty × Int} {e : Int} (hq : q = ([], (0, []), e)) (he : e ≠ 0) : endQ W bp br q (.panicked (WrongE e)) w := by
  subst hq
  refine ⟨h.keep,h.ret,⟨_,h.box⟩,?_⟩
  rw [if_neg he]
theorem SplitW.setRet {W w : World} {bp br : Nat} {ps : List Ty} {v : Value} (h : SplitW W bp br w ps v) (hbr : br < W.heap.size) (hpr : bp ≠ br) (k : Int) (c : List UInt8) :
    SplitW W bp br ((w.setCell ⟨br,0,none⟩ (.int .i64 k)).setCell ⟨br,1,none⟩ (.string (lb c))) ps v ∧ TyAt ((w.setCell ⟨br,0,none⟩ (.int .i64 k)).setCell ⟨br,1,none⟩ (.string (lb c))) br (k,c):=by
  obtain ⟨t0,ht0⟩:=h.ret
  have hty:=ty_set ht0 k c
  have hg : w.grownBy ((w.setCell ⟨br,0,none⟩ (.int .i64 k)).setCell ⟨br,1,none⟩ (.string (lb c))) (some br):=(scan_setCell w ⟨br,0,none⟩ _).trans (scan_setCell _ ⟨br,1,none⟩ _)
  exact ⟨{ box:=h.box.kept hg (by simpa using hpr)
           row:=Kd.R_grown h.row hg (fun k hk => by simp;omega)
           ret:=⟨_,hty⟩
           keep:=h.keep.grown hg (by simp)
           big:=Nat.le_trans h.big hg.size },hty⟩
theorem infoTy : (Try.prog.info? 97).map (fun i => (i.zero, i.size, i.bytes)) = some (some (.agg #[(.int .i64 0), (.string ⟨#[]⟩)]), 2, 24) := by kernel_rfl
theorem SplitW.push {W w w5 : World} {bp br : Nat} {ps : List Ty} {v v1 : Value} {t : Ty} (h : SplitW W bp br w ps v) (hbp : bp < W.heap.size) (hbr : br < W.heap.size) (hpr : bp ≠ br) (hg : w.grownBy w5 v.ownBlock)
    (ho : Kd.R k97 97 w5 (W.heap.size + 1) (fun k => W.heap.size < k) v1 (ps.map toS ++ [toS t])) : Boxed w5 bp 94 v ∧ SplitW W bp br (w5.setCell ⟨bp,0,none⟩ v1) (ps ++ [t]) v1:=by
  have hv : ∀ k,v.ownBlock = some k → W.heap.size < k:=fun k hk => h.row.1 k hk
  have hb:=h.box.kept hg (fun e => by have:=hv bp e.symm;omega)
  refine ⟨hb,{
    box:=hb.set v1
    row:=by
      rw [List.map_append]
      exact Kd.R_grown ho (grownBy_setCell' w5 bp v1) (fun k hk => by simp;omega)
    ret:=h.ret.imp fun t0 ht => ty_kept (ty_kept ht hg (fun e => by have:=hv br e.symm;omega)) (grownBy_setCell' w5 bp v1) (by simpa using hpr.symm)
    keep:=(h.keep.grown hg (fun k hk => .inr (.inr (Nat.le_of_lt (hv k hk))))).grown (grownBy_setCell' w5 bp v1) (by simp)
    big:=by have:=hg.size;have:=h.big;simp;omega }⟩
theorem scan_push {W w w5 : World} {bp br : Nat} {ps : List Ty} {v v1 : Value} {s : ByteArray} {i : Nat} (h : SplitW W bp br w ps v) (hs : Scan w W.heap.size s i) (hbp : bp < W.heap.size) (hg : w.grownBy w5 v.ownBlock) : Scan (w5.setCell ⟨bp, 0, none⟩ v1) W.heap.size s i := by
  have hv : ∀ k,v.ownBlock = some k → W.heap.size < k:=fun k hk => h.row.1 k hk
  refine scan_far ?_ (by simp;omega) _
  unfold Scan at hs ⊢
  rw [hg.block W.heap.size (Array.getElem?_eq_some_iff.1 hs).1 (fun e => by have:=hv _ e.symm;omega)]
  exact hs
theorem ty_new (w : World) (k : Int) (c : List UInt8) : TyAt (w.alloc (.cells #[.int .i64 k, .string (lb c)] 97)) w.heap.size (k, c) := World.alloc_heap_new _ _
theorem split_body (bs bp br : Nat) (s : ByteArray) (W : World) (hs : W.cell? ⟨bs, 0, none⟩ = some (.string s)) (hP : Boxed W bp 94 (.slice none 0 0)) (hT : TyAt W br (0, [])) (hM : MaxL W) (hgp : (0 : Nat) ≠ bp) (hgr : (0 : Nat) ≠ br) (hpr : bp ≠ br) (hm : s.size ≤ 64) :
    Calls Try.prog 110 #[.pointer (some ⟨bs,0,none⟩),.pointer (some ⟨bp,0,none⟩),.pointer (some ⟨br,0,none⟩)] W (endQ W bp br (splitD classL (bl s))):=by
  have hbr : br < W.heap.size:=(Array.getElem?_eq_some_iff.1 hT).1
  have hbp : bp < W.heap.size:=(Array.getElem?_eq_some_iff.1 hP).1
  have hS0 : Scan (W.alloc (.cells #[.string s,.int .i64 0] 146)) W.heap.size s 0:=World.alloc_heap_new _ _
  have hM0:=max_alloc hM (.cells #[.string s,.int .i64 0] 146)
  have hT0:=ty_kept hT (World.grownBy_alloc W (.cells #[.string s,.int .i64 0] 146) none) (by simp)
  have hP0:=hP.alloc (.cells #[.string s,.int .i64 0] 146)
  have hK0 : Keep2 W (W.alloc (.cells #[.string s,.int .i64 0] 146)) bp br:=(Keep2.refl W bp br).grown (World.grownBy_alloc W _ none) (by simp)
  have hgs : (0 : Nat) < W.heap.size:=by
    obtain ⟨m,hmm⟩:=hM
    exact World.block_lt_of_cell? W _ hmm
  have HMX:=aq hM
  have hlen : ¬ (bl s).length > 64:=by rw [bl_len];omega
  have HW0 : Aside0 (SplitW W bp br (W.alloc (.cells #[.string s,.int .i64 0] 146)) [] (.slice none 0 0)):=⟨{
    box:=hP0
    row:=Kd.R_nil _ _ _ _ _
    ret:=⟨_,hT0⟩
    keep:=hK0
    big:=by simp }⟩
  by_cases he : s.size = 0
  · have hb0 : bl s = []:=by
      have:=bl_len s
      rw [he] at this
      exact List.length_eq_zero_iff.1 this
    have HQ : Aside0 (splitD classL (bl s) = ([],(0,[]),1)):=⟨by rw [hb0];rfl⟩
    have HB:=aq (scan_byte_none W.heap.size s 0 _ hS0 (by omega) (by omega))
    clear hS0 hM0 hT0 hP0 hK0 hb0
    go_enter Try.func110,Try.ntmps110
    go_wp2_with (go_at_call 112;refine HB.out.mono ?_;rintro e w1 ⟨rfl,hg1⟩)
    exact ⟨rfl,(HW0.out.step hbp hbr hg1).panic HQ.out (by decide)⟩
  · have hlt : 0 < s.size:=by omega
    have hd : bl s = s[0] :: (bl s).drop 1:=by have:=drop_cons s 0 hlt;rwa [List.drop_zero] at this
    obtain ⟨x,hx⟩ : ∃ x,s[0] = x:=⟨_,rfl⟩
    have HB:=aq (scan_byte_some W.heap.size s 0 _ hS0 hlt (by omega))
    rw [hx] at HB hd
    have HD:=aq hd
    clear hx
    by_cases hx : x = 40
    · subst hx
      have hsp : Aside0 (splitD classL (bl s) = match typesF classL 65 ((bl s).drop 1) with
        | some (ps,r) => (match oneT classL r with
          | some (t,[]) => if ps.length ≤ 8 then (ps,t,0) else ([],(0,[]),3)
          | _ => ([],(0,[]),1))
        | none => ([],(0,[]),1)):=⟨by
          have hh : (bl s).head? = some 40:=by rw [hd];rfl
          have ht : (bl s).tail = (bl s).drop 1:=by simp
          unfold splitD
          rw [if_neg hlen,if_pos hh,ht]
          rfl⟩
      clear hd
      have HI : Aside0 (∀ w1,(W.alloc (.cells #[.string s,.int .i64 0] 146)).grownBy w1 (some W.heap.size) → Scan w1 W.heap.size s 1 → SplitI W bp br s ((bl s).drop 1) 65 w1 1 [] (.slice none 0 0)):=⟨fun w1 hg hs1 => {
        scan:=hs1
        le:=by omega
        base:={
          box:=hP0.kept hg (by simp;omega)
          row:=Kd.R_nil _ _ _ _ _
          ret:=⟨_,ty_kept hT0 hg (by simp;omega)⟩
          keep:=hK0.grown hg (by simp)
          big:=by have:=hg.size;simp at this;omega }
        so:=by cases typesF classL 65 ((bl s).drop 1) <;> simp
        cnt:=rfl
        adv:=by simp }⟩
      clear hS0 hM0 hT0 hP0 hK0
      go_enter Try.func110,Try.ntmps110
      go_wp2_with (first|(go_at_call 112;refine HB.out.mono ?_;rintro e w1 ⟨rfl,hs1,hg1⟩;have HI1:=aq (HI.out w1 hg1 hs1))|(go_at_call 111;refine (kind_unless _ _).mono ?_;rintro e w2 ⟨rfl,rfl⟩))
      go_loopg [4] 65 (fun kq v4 wr => ∃ i ps v,Aside0 (SplitI W bp br s ((bl s).drop 1) kq wr i ps v))
      case atStart => exact ⟨1,[],.slice none 0 0,⟨HI1.out⟩⟩
      case round =>
        obtain ⟨i,ps,v,HJ⟩:=hrel
        obtain ⟨gj,rfl⟩ : ∃ j,gk = j + 1:=⟨gk - 1,by have h1:=HJ.out.cnt;have h2:=HJ.out.adv;have h3:=HJ.out.le;omega⟩
        have HO0 : ∀ W',MaxL W' → Scan W' W.heap.size s i → Calls Try.prog 114 #[.pointer (some ⟨W.heap.size,0,none⟩)] W' (endS W.heap.size s W' (oneT classL ((bl s).drop i))):=fun W' hM' hS' => scan_one W.heap.size s i W' hM' (by omega) hS' HJ.out.le (by omega)
        by_cases hi : i < s.size
        · have hd:=drop_cons s i hi
          have HSee:=aq (scan_sees_some W.heap.size s i 41 wr HJ.out.scan hi (by omega))
          obtain ⟨y,hy⟩ : ∃ y,s[i] = y:=⟨_,rfl⟩
          rw [hy] at hd HSee
          by_cases hy41 : y = 41
          · subst hy41
            have hso : typesF classL 65 ((bl s).drop 1) = some (ps,(bl s).drop (i + 1)):=by
              have h1:=HJ.out.so
              rw [hd] at h1
              rw [h1]
              simp [typesF]
            have HQ0:=aq (hsp.out.trans (by rw [hso]))
            have HO1 : ∀ W',MaxL W' → Scan W' W.heap.size s (i + 1) → Calls Try.prog 114 #[.pointer (some ⟨W.heap.size,0,none⟩)] W' (endS W.heap.size s W' (oneT classL ((bl s).drop (i + 1)))):=fun W' hM' hS' => scan_one W.heap.size s (i + 1) W' hM' (by omega) hS' (by omega) (by omega)
            clear hd hso HO0
            cases ho : oneT classL ((bl s).drop (i + 1)) with
            | none =>
              rw [ho] at HO1
              have HQ : Aside0 (splitD classL (bl s) = ([],(0,[]),1)):=⟨HQ0.out.trans (by dsimp only;rw [ho])⟩
              have HO:=aq HO1
              clear HO1 ho
              go_wp2_with (first|(go_at_call 113;refine HSee.out.mono ?_;rintro e w1 ⟨rfl,hD1⟩;have HW1:=aq (HJ.out.base.step hbp hbr (grown_of_below hD1.below _));have HS1:=aq (scan_drawn HJ.out.scan hD1))|(go_at_call 112;refine (scan_byte_some W.heap.size s i _ HS1.out hi (by omega)).mono ?_;rintro e w2 ⟨rfl,hs2,hg2⟩;have HW2:=aq (HW1.out.step hbp hbr hg2);have HS2:=aq hs2;clear hs2)|(go_at_call 114;refine (HO.out _ (HW2.out.keep.max HMX.out hgp hgr) HS2.out).mono ?_;rintro e w3 ⟨hg3,rfl⟩;have HW3:=aq (HW2.out.step hbp hbr hg3)))
              exact ⟨rfl,HW3.out.panic HQ.out (by decide)⟩
            | some p =>
              obtain ⟨⟨k,c⟩,r⟩:=p
              rw [ho] at HO1
              have hsh:=one_short ho
              rw [List.length_drop,bl_len] at hsh
              dsimp only at hsh
              have HO:=aq HO1
              cases r with
              | cons z r =>
                have HQ : Aside0 (splitD classL (bl s) = ([],(0,[]),1)):=⟨HQ0.out.trans (by dsimp only;rw [ho])⟩
                have HRL : Aside0 (s.size - (z :: r).length ≠ s.size):=⟨by simp at hsh ⊢;omega⟩
                clear HO1 ho hsh
                go_wp2_with (first|(go_at_call 113;refine HSee.out.mono ?_;rintro e w1 ⟨rfl,hD1⟩;have HW1:=aq (HJ.out.base.step hbp hbr (grown_of_below hD1.below _));have HS1:=aq (scan_drawn HJ.out.scan hD1))|(go_at_call 112;refine (scan_byte_some W.heap.size s i _ HS1.out hi (by omega)).mono ?_;rintro e w2 ⟨rfl,hs2,hg2⟩;have HW2:=aq (HW1.out.step hbp hbr hg2);have HS2:=aq hs2;clear hs2)|(go_at_call 114;refine (HO.out _ (HW2.out.keep.max HMX.out hgp hgr) HS2.out).mono ?_;rintro e w3 ⟨hg3,rfl,hs3⟩;have HW3:=aq (HW2.out.step hbp hbr hg3);have HS3:=aq hs3;clear hs3;obtain ⟨t0,ht0⟩:=HW3.out.ret;obtain ⟨c0,c1,f0,f1⟩:=ty_cells ht0)|(go_at_call 116;refine (scan_done_not W.heap.size s _ _ (scan_far (scan_far HS3.out (p:=⟨br,0,none⟩) (by simp;omega) _) (p:=⟨br,1,none⟩) (by simp;omega) _) HRL.out).mono ?_;rintro e w4 ⟨rfl,hg4⟩))
                exact ⟨rfl,((HW3.out.setRet hbr hpr k c).1.step hbp hbr hg4).panic HQ.out (by decide)⟩
              | nil =>
                have HQ1 : Aside0 (splitD classL (bl s) = if ps.length ≤ 8 then (ps,(k,c),0) else ([],(0,[]),3)):=⟨HQ0.out.trans (by dsimp only;rw [ho])⟩
                clear HO1 ho hsh
                by_cases h8 : ps.length ≤ 8
                · have HQ : Aside0 (splitD classL (bl s) = (ps,(k,c),0)):=⟨HQ1.out.trans (if_pos h8)⟩
                  have hd8 : decide ((ps.length : Int) ≤ 8) = true:=decide_eq_true (by omega)
                  have hd9 : decide (ps.length ≤ 8) = true:=decide_eq_true h8
                  go_wp2_with (first|(go_at_call 113;refine HSee.out.mono ?_;rintro e w1 ⟨rfl,hD1⟩;have HW1:=aq (HJ.out.base.step hbp hbr (grown_of_below hD1.below _));have HS1:=aq (scan_drawn HJ.out.scan hD1))|(go_at_call 112;refine (scan_byte_some W.heap.size s i _ HS1.out hi (by omega)).mono ?_;rintro e w2 ⟨rfl,hs2,hg2⟩;have HW2:=aq (HW1.out.step hbp hbr hg2);have HS2:=aq hs2;clear hs2)|(go_at_call 114;refine (HO.out _ (HW2.out.keep.max HMX.out hgp hgr) HS2.out).mono ?_;rintro e w3 ⟨hg3,rfl,hs3⟩;have HW3:=aq (HW2.out.step hbp hbr hg3);have HS3:=aq hs3;clear hs3;obtain ⟨t0,ht0⟩:=HW3.out.ret;obtain ⟨c0,c1,f0,f1⟩:=ty_cells ht0)|(go_at_call 116;refine (scan_done W.heap.size s _ _ (scan_far (scan_far HS3.out (p:=⟨br,0,none⟩) (by simp;omega) _) (p:=⟨br,1,none⟩) (by simp;omega) _) (by simp)).mono ?_;rintro e w4 ⟨rfl,hD4⟩;have HW4:=aq ((HW3.out.setRet hbr hpr k c).1.step hbp hbr (grown_of_below hD4.below _));have HT4:=aq (ty_kept (HW3.out.setRet hbr hpr k c).2 (grown_of_below hD4.below none) (by simp));obtain ⟨A,cp,hv⟩:=Kd.R_slice HW4.out.row;have hbx:=HW4.out.box.cell;rw [hv] at hbx)|(go_at_call 111;refine (kind_unless _ _).mono ?_;rintro e w5 ⟨rfl,rfl⟩))
                  go_end0
                  refine ⟨HW4.out.keep,HW4.out.ret,⟨_,HW4.out.box⟩,?_⟩
                  rw [HQ.out,if_pos rfl]
                  exact ⟨rfl,HT4.out,_,HW4.out.box,Kd.R_mono HW4.out.row (fun _ _ => trivial)⟩
                · have HQ : Aside0 (splitD classL (bl s) = ([],(0,[]),3)):=⟨HQ1.out.trans (if_neg h8)⟩
                  have hd8 : decide ((ps.length : Int) ≤ 8) = false:=decide_eq_false (by omega)
                  have hd9 : decide (ps.length ≤ 8) = false:=decide_eq_false h8
                  go_wp2_with (first|(go_at_call 113;refine HSee.out.mono ?_;rintro e w1 ⟨rfl,hD1⟩;have HW1:=aq (HJ.out.base.step hbp hbr (grown_of_below hD1.below _));have HS1:=aq (scan_drawn HJ.out.scan hD1))|(go_at_call 112;refine (scan_byte_some W.heap.size s i _ HS1.out hi (by omega)).mono ?_;rintro e w2 ⟨rfl,hs2,hg2⟩;have HW2:=aq (HW1.out.step hbp hbr hg2);have HS2:=aq hs2;clear hs2)|(go_at_call 114;refine (HO.out _ (HW2.out.keep.max HMX.out hgp hgr) HS2.out).mono ?_;rintro e w3 ⟨hg3,rfl,hs3⟩;have HW3:=aq (HW2.out.step hbp hbr hg3);have HS3:=aq hs3;clear hs3;obtain ⟨t0,ht0⟩:=HW3.out.ret;obtain ⟨c0,c1,f0,f1⟩:=ty_cells ht0)|(go_at_call 116;refine (scan_done W.heap.size s _ _ (scan_far (scan_far HS3.out (p:=⟨br,0,none⟩) (by simp;omega) _) (p:=⟨br,1,none⟩) (by simp;omega) _) (by simp)).mono ?_;rintro e w4 ⟨rfl,hD4⟩;have HW4:=aq ((HW3.out.setRet hbr hpr k c).1.step hbp hbr (grown_of_below hD4.below _));have HT4:=aq (ty_kept (HW3.out.setRet hbr hpr k c).2 (grown_of_below hD4.below none) (by simp));obtain ⟨A,cp,hv⟩:=Kd.R_slice HW4.out.row;have hbx:=HW4.out.box.cell;rw [hv] at hbx)|(go_at_call 111;refine (kind_unless_not _ _).mono ?_;rintro e w5 ⟨rfl,rfl⟩))
                  exact ⟨rfl,HW4.out.panic HQ.out (by decide)⟩
          · have q41 : ((y.toNat : Int) == 41) = false:=beq_eq_false_iff_ne.2 (fun e => hy41 (byte_of e))
            have hty : typesF classL (gj + 1) ((bl s).drop i) = match oneT classL ((bl s).drop i) with
                | some (t,r) => if t.1 = 1 then none else (typesF classL gj r).map fun p => (t :: p.1,p.2)
                | none => none:=by
              rw [hd,typesF,if_neg (by simpa using hy41)]
              rfl
            cases ho : oneT classL ((bl s).drop i) with
            | none =>
              rw [ho] at HO0 hty
              have HQ : Aside0 (splitD classL (bl s) = ([],(0,[]),1)):=⟨by
                have h1:=HJ.out.so
                rw [hty] at h1
                rw [hsp.out,h1]
                rfl⟩
              have HO:=aq HO0
              clear HO0 ho hd hty
              go_wp2_with (first|(go_at_call 113;refine HSee.out.mono ?_;rintro e w1 ⟨rfl,hD1⟩;have HW1:=aq (HJ.out.base.step hbp hbr (grown_of_below hD1.below _));have HS1:=aq (scan_drawn HJ.out.scan hD1))|(go_at_call 114;refine (HO.out _ (HW1.out.keep.max HMX.out hgp hgr) HS1.out).mono ?_;rintro e w2 ⟨hg2,rfl⟩;have HW2:=aq (HW1.out.step hbp hbr hg2)))
              exact ⟨rfl,HW2.out.panic HQ.out (by decide)⟩
            | some p =>
              obtain ⟨⟨k,c⟩,r⟩:=p
              rw [ho] at HO0 hty
              dsimp only at hty
              have hrt:=one_right ho
              have hcl : (lb c).size ≤ 9223372036854775807:=by
                have h1:=one_short ho
                rw [List.length_drop,bl_len] at h1
                show c.length ≤ _
                dsimp only at h1
                omega
              have HPm0:=fun W' => kind_param k (lb c) W' hcl
              rw [bl_lb,show paramT classL (k,c) = decide (k ≠ 1) by unfold paramT;rw [hrt];simp] at HPm0
              by_cases hk : k = 1
              · subst hk
                rw [if_pos rfl] at hty
                have HQ : Aside0 (splitD classL (bl s) = ([],(0,[]),1)):=⟨by
                  have h1:=HJ.out.so
                  rw [hty] at h1
                  rw [hsp.out,h1]
                  rfl⟩
                have HO:=aq HO0
                have HPm:=aq HPm0
                clear HO0 HPm0 ho hd hty hrt
                go_wp2_with (first|(go_at_call 113;refine HSee.out.mono ?_;rintro e w1 ⟨rfl,hD1⟩;have HW1:=aq (HJ.out.base.step hbp hbr (grown_of_below hD1.below _));have HS1:=aq (scan_drawn HJ.out.scan hD1))|(go_at_call 114;refine (HO.out _ (HW1.out.keep.max HMX.out hgp hgr) HS1.out).mono ?_;rintro e w2 ⟨hg2,rfl,hs2⟩;have HW2:=aq (HW1.out.step hbp hbr hg2);have HS2:=aq hs2;clear hs2)|(go_at_call 115;refine (HPm.out _).mono ?_;rintro e w3 ⟨rfl,hb3⟩;have HB3:=aq hb3;clear hb3)|(go_at_call 111;refine (kind_unless_not _ _).mono ?_;rintro e w4 ⟨rfl,rfl⟩))
                exact ⟨rfl,((HW2.out.step hbp hbr (World.grownBy_alloc _ _ _)).step hbp hbr (grown_of_below HB3.out _)).panic HQ.out (by decide)⟩
              · rw [if_neg hk] at hty
                have HN : Aside0 (∀ wz v1,Scan wz W.heap.size s (s.size - r.length) → SplitW W bp br wz (ps ++ [(k,c)]) v1 → SplitI W bp br s ((bl s).drop 1) gj wz (s.size - r.length) (ps ++ [(k,c)]) v1):=⟨fun wz v1 hsz hwz => {
                  scan:=hsz
                  le:=by omega
                  base:=hwz
                  so:=by
                    have h1:=HJ.out.so
                    rw [hty] at h1
                    rw [h1,one_drop ho]
                    cases typesF classL gj r with
                    | none => rfl
                    | some p => simp
                  cnt:=by have:=HJ.out.cnt;simp;omega
                  adv:=by
                    have h1:=one_short ho
                    have h2:=HJ.out.adv
                    rw [List.length_drop,bl_len] at h1
                    simp at h1 ⊢
                    omega }⟩
                have HL64 : Aside0 (((ps.map toS).length + 1) * 24 ≤ 140737488355328):=⟨by have:=HJ.out.cnt;simp;omega⟩
                have HLN : Aside0 ((ps.map toS ++ [toS (k,c)]).length = ps.length + 1):=⟨by simp⟩
                have HO:=aq HO0
                rw [show decide (k ≠ 1) = true by simpa using hk] at HPm0
                have HPm:=aq HPm0
                obtain ⟨A,cp,hv⟩:=Kd.R_slice HJ.out.base.row
                rw [List.length_map] at hv
                subst hv
                clear HO0 HPm0 ho hd hty hrt hk
                go_wp2_with (first|(go_at_call 113;refine HSee.out.mono ?_;rintro e w1 ⟨rfl,hD1⟩;have HW1:=aq (HJ.out.base.step hbp hbr (grown_of_below hD1.below _));have HS1:=aq (scan_drawn HJ.out.scan hD1))|(go_at_call 114;refine (HO.out _ (HW1.out.keep.max HMX.out hgp hgr) HS1.out).mono ?_;rintro e w2 ⟨hg2,rfl,hs2⟩;have HW2:=aq (HW1.out.step hbp hbr hg2);have HS2:=aq hs2;clear hs2)|(go_at_call 115;refine (HPm.out _).mono ?_;rintro e w3 ⟨rfl,hb3⟩;have HW3:=aq ((HW2.out.step hbp hbr (World.grownBy_alloc _ _ _)).step hbp hbr (grown_of_below hb3 _));have HS3:=aq (scan_drawnB (scan_alloc HS2.out _) hb3);obtain ⟨d0,d1,d2,d3⟩:=ty_cells (ty_below (ty_new w2 k c) hb3);have hbx:=HW3.out.box.cell;clear hb3)|(go_at_call 111;refine (kind_unless _ _).mono ?_;rintro e w4 ⟨rfl,rfl⟩)|((with_reducible refine gate_builtin (b:=.append) (xs:=#[.tmp 20,.tmp 22]) rfl ?_);at_builtin;refine Kd.R_append k97 (w0:=w4) (W.heap.size + 1) rfl (.tmp 20) (.tmp 22) 94 97 (.agg #[(.int .i64 0),(.string ⟨#[]⟩)]) 24 rfl Try.underlying94 infoTy rfl (by decide) (by omega) (.slice A ps.length cp) (ps.map toS) (toS (k,c)) [.int .i64 k,.string (lb c)] (fun k => W.heap.size < k) (fun _ => False) rfl (by first|(go_simp;done)|(go_simp;rfl)) ?aP (fun _ hk => hk.elim) ?aF ?aO ?aB ?aS ?aL ?_;(case aP => exact k97_mkM _ _ _ (toS (k,c)));(case aB => exact Below.refl _ _);(case aF => exact (fun k hk => by have:=HW3.out.big;omega));(case aO => exact HW3.out.row);(case aS => exact HW3.out.big);(case aL => exact HL64.out);intro v1 w5 ho hb hg hat;obtain ⟨A1,cp1,hv1⟩:=Kd.R_slice ho;rw [HLN.out] at hv1;subst hv1;obtain ⟨hbx5,hw5⟩:=HW3.out.push hbp hbr hpr hg ho;have HS5:=aq (scan_push (v1:=.slice A1 (ps.length + 1) cp1) HW3.out HS3.out hbp hg);have HW5:=aq hw5;have hbc5:=hbx5.cell;have hbf5:=hbx5.frozen;clear ho hb hg hat hw5 hbx))
                go_roundg gj
                case measure => omega
                case rel => exact ⟨_,_,_,⟨HN.out _ _ HS5.out HW5.out⟩⟩
        · have hdn : (bl s).drop i = []:=by rw [List.drop_eq_nil_iff,bl_len];omega
          have HE:=aq (show s.size ≤ i by omega)
          have HQ : Aside0 (splitD classL (bl s) = ([],(0,[]),1)):=⟨by
            have h1:=HJ.out.so
            rw [hdn] at h1
            rw [hsp.out,h1]
            rfl⟩
          have hz : oneT classL [] = none:=rfl
          rw [hdn,hz] at HO0
          have HO:=aq HO0
          clear HO0 hdn hz hi
          go_wp2_with (first|(go_at_call 113;refine (scan_sees_none W.heap.size s i 41 wr HJ.out.scan HE.out (by have:=HJ.out.le;omega)).mono ?_;rintro e w1 ⟨rfl,hD1⟩;have HW1:=aq (HJ.out.base.step hbp hbr (grown_of_below hD1.below _));have HS1:=aq (scan_drawn HJ.out.scan hD1))|(go_at_call 114;refine (HO.out _ (HW1.out.keep.max HMX.out hgp hgr) HS1.out).mono ?_;rintro e w2 ⟨hg2,rfl⟩;have HW2:=aq (HW1.out.step hbp hbr hg2)))
          exact ⟨rfl,HW2.out.panic HQ.out (by decide)⟩
    · have HQ : Aside0 (splitD classL (bl s) = ([],(0,[]),1)):=⟨by
        have hh : (bl s).head? ≠ some 40:=by rw [hd];simpa using hx
        unfold splitD
        rw [if_neg hlen,if_neg hh]⟩
      have q40 : ((x.toNat : Int) == 40) = false:=beq_eq_false_iff_ne.2 (fun e => hx (byte_of e))
      clear hS0 hM0 hT0 hP0 hK0 hd
      go_enter Try.func110,Try.ntmps110
      go_wp2_with (first|(go_at_call 112;refine HB.out.mono ?_;rintro e w1 ⟨rfl,hs1,hg1⟩)|(go_at_call 111;refine (kind_unless_not _ _).mono ?_;rintro e w2 ⟨rfl,rfl⟩))
      exact ⟨rfl,(HW0.out.step hbp hbr hg1).panic HQ.out (by decide)⟩
theorem split_end {w W2 : World} {bp br B : Nat} {v v' : Value} {ps : List Ty} {t0 t : Ty} (hp : w.heap.size ≤ bp) (hr : w.heap.size ≤ br) (hpr : bp ≠ br) (hpB : bp < B) (hrB : br < B) (hbx : Boxed W2 bp 94 v') (hty : TyAt W2 br t0)
  (hrow : Kd.R k97 97 W2 B (fun _ => True) v (ps.map toS)) (hw : Below w.heap.size w W2) :
  ∀ X,(X = ((W2.setCell ⟨bp,0,none⟩ v).setCell ⟨br,0,none⟩ (.int .i64 t.1)).setCell ⟨br,1,none⟩ (.string (lb t.2)) ∨ X = ((W2.setCell ⟨br,0,none⟩ (.int .i64 t.1)).setCell ⟨br,1,none⟩ (.string (lb t.2))).setCell ⟨bp,0,none⟩ v) →
   X.cell? ⟨bp,0,none⟩ = some v ∧ X.cell? ⟨br,0,none⟩ = some (.int .i64 t.1) ∧ X.cell? ⟨br,1,none⟩ = some (.string (lb t.2)) ∧ Kd.R k97 97 X w.heap.size (fun _ => True) v (ps.map toS) ∧ Below w.heap.size w X:=by
 have hne : ∀ k,B ≤ k → k ≠ bp ∧ k ≠ br:=fun k hk => ⟨by omega,by omega⟩
 have hrow':=Kd.R_mono (Kd.R_bound hrow) (ok':=fun k => B ≤ k) (fun k hk => hk.2.1)
 have hwB : w.heap.size ≤ B:=by omega
 rintro X (rfl|rfl)
 ·
  have g1 : TyAt ((W2.setCell ⟨bp,0,none⟩ v)) br t0:=ty_kept hty (scan_setCell W2 ⟨bp,0,none⟩ v) (by simpa using hpr.symm)
  have g2:=ty_set g1 t.1 t.2
  obtain ⟨c0,c1,_,_⟩:=ty_cells g2
  have b1:=((hbx.set v).kept (scan_setCell _ ⟨br,0,none⟩ (.int .i64 t.1)) (by simpa using hpr)).kept (scan_setCell _ ⟨br,1,none⟩ (.string (lb t.2))) (by simpa using hpr)
  refine ⟨b1.cell,c0,c1,?_,?_⟩
  ·
   exact Kd.R_mono (Kd.R_lower (Kd.R_far (p:=⟨br,1,none⟩) (Kd.R_far (p:=⟨br,0,none⟩) (Kd.R_far (p:=⟨bp,0,none⟩) hrow' (fun k hk => (hne k hk).1) _) (fun k hk => (hne k hk).2) _) (fun k hk => (hne k hk).2) _) hwB) (fun _ _ => trivial)
  ·
   exact ((hw.setCell (p:=⟨bp,0,none⟩) hp _).setCell (p:=⟨br,0,none⟩) hr _).setCell (p:=⟨br,1,none⟩) hr _
 ·
  have g2:=ty_kept (ty_set hty t.1 t.2) (scan_setCell _ ⟨bp,0,none⟩ v) (by simpa using hpr.symm)
  obtain ⟨c0,c1,_,_⟩:=ty_cells g2
  have b1:=Boxed.set v ((hbx.kept (scan_setCell _ ⟨br,0,none⟩ (.int .i64 t.1)) (by simpa using hpr)).kept (scan_setCell _ ⟨br,1,none⟩ (.string (lb t.2))) (by simpa using hpr))
  refine ⟨b1.cell,c0,c1,?_,?_⟩
  ·
   exact Kd.R_mono (Kd.R_lower (Kd.R_far (p:=⟨bp,0,none⟩) (Kd.R_far (p:=⟨br,1,none⟩) (Kd.R_far (p:=⟨br,0,none⟩) hrow' (fun k hk => (hne k hk).2) _) (fun k hk => (hne k hk).2) _) (fun k hk => (hne k hk).1) _) hwB) (fun _ _ => trivial)
  ·
   exact ((hw.setCell (p:=⟨br,0,none⟩) hr _).setCell (p:=⟨br,1,none⟩) hr _).setCell (p:=⟨bp,0,none⟩) hp _
theorem Keep2.below {w W X : World} {p q : Nat} (h : Keep2 W X p q) (hw : Below w.heap.size w W) (hp : w.heap.size ≤ p) (hq : w.heap.size ≤ q) : Below w.heap.size w X :=
 ⟨h.os.trans hw.os,h.tape.trans hw.tape,h.output.trans hw.output,Nat.le_trans hw.size h.size,fun k hk => (h.block k (Nat.lt_of_lt_of_le hk hw.size) (by omega) (by omega)).trans (hw.block k hk)⟩
theorem split_err {l : List UInt8} {ps : List Ty} {t : Ty} {e : Int} (h : splitD classL l = (ps, t, e)) : e = 0 ∨ (ps = [] ∧ t = (0, []) ∧ (e = 1 ∨ e = 3)) := by
 unfold splitD at h
 split at h
 ·
  cases h;exact .inr ⟨rfl,rfl,.inr rfl⟩
 ·
  split at h
  ·
   split at h
   ·
    split at h
    ·
     split at h
     ·
      cases h;exact .inl rfl
     ·
      cases h;exact .inr ⟨rfl,rfl,.inr rfl⟩
    ·
     cases h;exact .inr ⟨rfl,rfl,.inl rfl⟩
   ·
    cases h;exact .inr ⟨rfl,rfl,.inl rfl⟩
  ·
   cases h;exact .inr ⟨rfl,rfl,.inl rfl⟩
def endSp (W : World) (q : List Ty × Ty × Int) (x : Ending) (w' : World) : Prop :=
 ∃ v,x = .returned (.tuple #[v,.agg #[.int .i64 q.2.1.1,.string (lb q.2.1.2)],.int .i64 q.2.2]) ∧ Kd.R k97 97 w' W.heap.size (fun _ => True) v (q.1.map toS) ∧ Below W.heap.size W w'
theorem kind_split (s : ByteArray) (W : World) (hM : MaxL W) (hm : s.size ≤ 1048576) :
  Calls Try.prog 102 #[.string s] W (endSp W (splitD classL (bl s))):=by
 have hmf : ∀ (fn : Fn) (first cap : Array Value) (w : World),(Instr.makeFunc fn first cap).run Try.prog w = .ok (.func fn first cap) w:=fun _ _ _ _ => rfl
 by_cases hbig : 64 < s.size
 ·
  have hsp : splitD classL (bl s) = ([],(0,[]),3):=by
   unfold splitD
   rw [if_pos (by rw [bl_len];exact hbig)]
  rw [hsp]
  have hd1 : decide ((64 : Int) < (s.size : Int)) = true:=decide_eq_true (by omega)
  have hd2 : decide (64 < s.size) = true:=decide_eq_true hbig
  go_enter Try.func102,Try.ntmps102
  go_wp2
  refine ⟨rfl,.tuple #[.slice none 0 0,.agg #[.int .i64 0,.string ⟨#[]⟩],.int .i64 3],by simp [results,Try.results102,go_sem],_,rfl,Kd.R_nil _ _ _ _ _,?_⟩
  first
   | exact below_alloc (below_alloc (below_alloc (Below.refl _ _) _) _) _
   | trace_state
 ·
  have hd1 : decide ((64 : Int) < (s.size : Int)) = false:=decide_eq_false (by omega)
  have hd2 : decide (64 < s.size) = false:=decide_eq_false hbig
  have hM64 : s.size ≤ 64:=by omega
  clear hbig
  obtain ⟨W1,hW1⟩ : ∃ W1,W1 = ((W.alloc (.cells #[.string s] 9)).alloc (.cells #[.slice none 0 0] 94)).alloc (.cells #[.int .i64 0,.string ⟨#[]⟩] 97):=⟨_,rfl⟩
  have hz1 : W1.heap.size = W.heap.size + 3:=by rw [hW1];simp
  have hB1 : Boxed W1 W.heap.size 9 (.string s):=by rw [hW1];exact ((Boxed.new W 9 (.string s)).alloc _).alloc _
  have hP1 : Boxed W1 (W.heap.size + 1) 94 (.slice none 0 0):=by
   have:=(Boxed.new (W.alloc (.cells #[.string s] 9)) 94 (.slice none 0 0)).alloc (.cells #[.int .i64 0,.string ⟨#[]⟩] 97)
   rw [World.size_alloc] at this
   rw [hW1];exact this
  have hT1 : TyAt W1 (W.heap.size + 2) (0,[]):=by
   have:=World.alloc_heap_new ((W.alloc (.cells #[.string s] 9)).alloc (.cells #[.slice none 0 0] 94)) (.cells #[.int .i64 0,.string ⟨#[]⟩] 97)
   rw [World.size_alloc,World.size_alloc] at this
   rw [hW1];exact this
  have hG1 : Below W.heap.size W W1:=by rw [hW1];exact below_alloc (below_alloc (below_alloc (Below.refl _ _) _) _) _
  have hM1 : MaxL W1:=max_below hM hG1
  have hgs : (0 : Nat) < W.heap.size:=by
   obtain ⟨m,hmm⟩:=hM
   exact World.block_lt_of_cell? W _ hmm
  have hGE : Below W.heap.size W (W1.alloc (.cells #[.int .i64 0] 65)):=below_alloc hG1 _
  have hE : ∀ w',Keep2 (W1.alloc (.cells #[.int .i64 0] 65)) w' (W.heap.size + 1) (W.heap.size + 2) → w'.cell? ⟨W1.heap.size,0,none⟩ = some (.int .i64 0) ∧ w'.frozen? ⟨W1.heap.size,0,none⟩ = false:=fun w' hk => by
   have hb : Boxed w' W1.heap.size 65 (.int .i64 0):=(hk.block W1.heap.size (by simp) (by omega) (by omega)).trans (Boxed.new W1 65 (.int .i64 0))
   exact ⟨hb.cell,hb.frozen⟩
  have hP:=split_body W.heap.size (W.heap.size + 1) (W.heap.size + 2) s (W1.alloc (.cells #[.int .i64 0] 65)) (hB1.alloc _).cell (hP1.alloc _) (ty_kept hT1 (World.grownBy_alloc W1 _ none) (by simp)) (max_alloc hM1 _) (by omega) (by omega) (by omega) hM64
  have hen:=fun W => enters_ Try.func110 (by kernel_rfl) rfl #[.pointer (some ⟨W1.heap.size - 3,0,none⟩),.pointer (some ⟨W1.heap.size - 2,0,none⟩),.pointer (some ⟨W1.heap.size - 1,0,none⟩)] W
  have hs3 : W1.heap.size - 3 = W.heap.size:=by omega
  have hs2 : W1.heap.size - 2 = W.heap.size + 1:=by omega
  have hs1 : W1.heap.size - 1 = W.heap.size + 2:=by omega
  rw [hs1,hs2,hs3] at hen
  obtain ⟨ps,t,e,hq⟩ : ∃ ps t e,splitD classL (bl s) = (ps,t,e):=⟨_,_,_,rfl⟩
  rw [hq] at hP ⊢
  by_cases h0 : e = 0
  ·
   subst h0
   have HC:=aq ((caught_ok 110 _ W1 (fun w' => Keep2 (W1.alloc (.cells #[.int .i64 0] 65)) w' (W.heap.size + 1) (W.heap.size + 2) ∧ TyAt w' (W.heap.size + 2) t ∧ ∃ v,Boxed w' (W.heap.size + 1) 94 v ∧ Kd.R k97 97 w' ((W1.alloc (.cells #[.int .i64 0] 65)).heap.size + 1) (fun _ => True) v (ps.map toS)) hen (hP.mono fun x w' ⟨h1,_,_,h4⟩ => by
    rw [if_pos rfl] at h4
    exact ⟨h4.1,h1,h4.2.1,h4.2.2⟩) (fun w' h => hE w' h.1)).mono
    (show ∀ x w',_ → x = .returned (.int .i64 0) ∧ Below W.heap.size W w' ∧ TyAt w' (W.heap.size + 2) t ∧ ∃ v,Boxed w' (W.heap.size + 1) 94 v ∧ Kd.R k97 97 w' (W.heap.size + 5) (fun _ => True) v (ps.map toS) from fun x w' ⟨h1,w1,⟨h2,h3,v,h4,h5⟩,h6⟩ => by
     subst h6
     rw [World.size_alloc,hz1] at h5
     refine ⟨h1,(h2.below hGE (by omega) (by omega)).setCell (p:=⟨W1.heap.size,0,none⟩) (by simp;omega) _,ty_kept h3 (scan_setCell w1 ⟨W1.heap.size,0,none⟩ _) (by simp;omega),v,h4.kept (scan_setCell w1 ⟨W1.heap.size,0,none⟩ _) (by simp;omega),?_⟩
     exact Kd.R_mono (Kd.R_far (p:=⟨W1.heap.size,0,none⟩) (Kd.R_mono (Kd.R_bound h5) (ok':=fun k => W.heap.size + 5 ≤ k) (fun k hk => hk.2.1)) (fun k hk => by simp;omega) _) (fun _ _ => trivial)))
   clear hP hen hE hT1 hB1 hP1 hq
   go_enter Try.func102,Try.ntmps102
   go_wp2_with (go_at_call 109;rw [← hW1];refine HC.out.mono ?_;rintro e w2 ⟨rfl,hb2,ht2,v,hbx,hrow⟩;have HEnd:=aq (split_end (w:=W) (bp:=W.heap.size + 1) (br:=W.heap.size + 1 + 1) (t:=t) (by omega) (by omega) (by omega) (by omega) (by omega) hbx ht2 hrow hb2);obtain ⟨A,cp,hv⟩:=Kd.R_slice hrow;rw [List.length_map] at hv;subst hv;obtain ⟨c0,c1,f0,f1⟩:=ty_cells ht2;have c2:=hbx.cell;have f2:=hbx.frozen;clear hb2 ht2 hbx hrow)
   go_region
   all_goals go_wp2
   obtain ⟨q0,q1,q2,q3,q4⟩:=HEnd.out _ (.inl rfl)
   refine ⟨rfl,.tuple #[.slice A ps.length cp,.agg #[.int .i64 t.1,.string (lb t.2)],.int .i64 0],by simp [results,Try.results102,go_sem,q0,q1,q2],_,rfl,Kd.R_drew q3,below_drew q4⟩
  ·
   obtain ⟨rfl,rfl,he⟩:=(split_err hq).resolve_left h0
   have HC:=aq ((caught_not 110 _ W1 e (fun w' => Keep2 (W1.alloc (.cells #[.int .i64 0] 65)) w' (W.heap.size + 1) (W.heap.size + 2) ∧ (∃ t,TyAt w' (W.heap.size + 2) t) ∧ ∃ v,Boxed w' (W.heap.size + 1) 94 v) hen (hP.mono fun x w' ⟨h1,h2,h3,h4⟩ => by
    rw [if_neg h0] at h4
    exact ⟨h4,h1,h2,h3⟩) (fun w' h => hE w' h.1)).mono
    (show ∀ x w',_ → x = .returned (.int .i64 e) ∧ Below W.heap.size W w' ∧ (∃ t,TyAt w' (W.heap.size + 2) t) ∧ ∃ v,Boxed w' (W.heap.size + 1) 94 v from fun x w' ⟨h1,w1,⟨h2,⟨t,h3⟩,v,h4⟩,h6⟩ => by
     subst h6
     refine ⟨h1,(below_alloc (h2.below hGE (by omega) (by omega)) _).setCell (p:=⟨W1.heap.size,0,none⟩) (by simp;omega) _,⟨t,?_⟩,v,?_⟩
     ·
      exact ty_kept (ty_kept h3 (World.grownBy_alloc w1 _ none) (by simp)) (scan_setCell _ ⟨W1.heap.size,0,none⟩ _) (by simp;omega)
     ·
      exact (h4.alloc _).kept (scan_setCell _ ⟨W1.heap.size,0,none⟩ _) (by simp;omega)))
   clear hP hen hE hT1 hB1 hP1 hq h0
   rcases he with rfl|rfl
   all_goals go_enter Try.func102,Try.ntmps102
   all_goals go_wp2_with (go_at_call 109;rw [← hW1];refine HC.out.mono ?_;rintro e w2 ⟨rfl,hb2,⟨t0,ht2⟩,v,hbx⟩;have HEnd:=aq (split_end (w:=W) (bp:=W.heap.size + 1) (br:=W.heap.size + 1 + 1) (B:=W.heap.size + 5) (ps:=[]) (v:=.slice none 0 0) (t:=(0,[])) (by omega) (by omega) (by omega) (by omega) (by omega) hbx ht2 (Kd.R_nil _ _ _ _ _) hb2);obtain ⟨c0,c1,f0,f1⟩:=ty_cells ht2;have c2:=hbx.cell;have f2:=hbx.frozen;clear hb2 ht2 hbx)
   ·
    have hx:=HEnd.out (((w2.setCell ⟨W.heap.size + 1,0,none⟩ (.slice none 0 0)).setCell ⟨W.heap.size + 1 + 1,0,none⟩ (.int .i64 0)).setCell ⟨W.heap.size + 1 + 1,1,none⟩ (.string ⟨#[]⟩)) (.inl rfl)
    have q0 : (((w2.setCell ⟨W.heap.size + 1,0,none⟩ (.slice none 0 0)).setCell ⟨W.heap.size + 1 + 1,0,none⟩ (.int .i64 0)).setCell ⟨W.heap.size + 1 + 1,1,none⟩ (.string ⟨#[]⟩)).cell? ⟨W.heap.size + 1,0,none⟩ = some (.slice none 0 0):=hx.1
    have q1 : (((w2.setCell ⟨W.heap.size + 1,0,none⟩ (.slice none 0 0)).setCell ⟨W.heap.size + 1 + 1,0,none⟩ (.int .i64 0)).setCell ⟨W.heap.size + 1 + 1,1,none⟩ (.string ⟨#[]⟩)).cell? ⟨W.heap.size + 1 + 1,0,none⟩ = some (.int .i64 0):=hx.2.1
    have q2 : (((w2.setCell ⟨W.heap.size + 1,0,none⟩ (.slice none 0 0)).setCell ⟨W.heap.size + 1 + 1,0,none⟩ (.int .i64 0)).setCell ⟨W.heap.size + 1 + 1,1,none⟩ (.string ⟨#[]⟩)).cell? ⟨W.heap.size + 1 + 1,1,none⟩ = some (.string ⟨#[]⟩):=hx.2.2.1
    refine ⟨rfl,.tuple #[.slice none 0 0,.agg #[.int .i64 0,.string ⟨#[]⟩],.int .i64 1],by simp [results,Try.results102,go_sem,q0,q1,q2],_,rfl,hx.2.2.2.1,hx.2.2.2.2⟩
   ·
    have hx:=HEnd.out (((w2.setCell ⟨W.heap.size + 1,0,none⟩ (.slice none 0 0)).setCell ⟨W.heap.size + 1 + 1,0,none⟩ (.int .i64 0)).setCell ⟨W.heap.size + 1 + 1,1,none⟩ (.string ⟨#[]⟩)) (.inl rfl)
    have q0 : (((w2.setCell ⟨W.heap.size + 1,0,none⟩ (.slice none 0 0)).setCell ⟨W.heap.size + 1 + 1,0,none⟩ (.int .i64 0)).setCell ⟨W.heap.size + 1 + 1,1,none⟩ (.string ⟨#[]⟩)).cell? ⟨W.heap.size + 1,0,none⟩ = some (.slice none 0 0):=hx.1
    have q1 : (((w2.setCell ⟨W.heap.size + 1,0,none⟩ (.slice none 0 0)).setCell ⟨W.heap.size + 1 + 1,0,none⟩ (.int .i64 0)).setCell ⟨W.heap.size + 1 + 1,1,none⟩ (.string ⟨#[]⟩)).cell? ⟨W.heap.size + 1 + 1,0,none⟩ = some (.int .i64 0):=hx.2.1
    have q2 : (((w2.setCell ⟨W.heap.size + 1,0,none⟩ (.slice none 0 0)).setCell ⟨W.heap.size + 1 + 1,0,none⟩ (.int .i64 0)).setCell ⟨W.heap.size + 1 + 1,1,none⟩ (.string ⟨#[]⟩)).cell? ⟨W.heap.size + 1 + 1,1,none⟩ = some (.string ⟨#[]⟩):=hx.2.2.1
    refine ⟨rfl,.tuple #[.slice none 0 0,.agg #[.int .i64 0,.string ⟨#[]⟩],.int .i64 3],by simp [results,Try.results102,go_sem,q0,q1,q2],_,rfl,hx.2.2.2.1,hx.2.2.2.2⟩
def kind_Right.f (k : Int) (c : ByteArray) : Option Bool := if c.size ≤ 4611686018427387903 then some (rightT classL (k, bl c)) else none
theorem kind_Right.calls (a0_0 : Int) (a0_1 : ByteArray) (r : Bool) (w : World) (h : kind_Right.f a0_0 a0_1 = some r) :
  Calls Try.prog 88 #[.agg #[.int .i64 a0_0,.string a0_1]] w fun e w' => e = .returned (.bool r) ∧ Below w.heap.size w w':=by
 unfold kind_Right.f at h
 split at h
 ·
  cases h
  exact kind_right a0_0 a0_1 w (by omega)
 ·
  cases h
def kind_param.f (k : Int) (c : ByteArray) : Option Bool := if c.size ≤ 4611686018427387903 then some (paramT classL (k, bl c)) else none
theorem kind_param.calls (a0_0 : Int) (a0_1 : ByteArray) (r : Bool) (w : World) (h : kind_param.f a0_0 a0_1 = some r) :
  Calls Try.prog 115 #[.agg #[.int .i64 a0_0,.string a0_1]] w fun e w' => e = .returned (.bool r) ∧ Below w.heap.size w w':=by
 unfold kind_param.f at h
 split at h
 ·
  cases h
  exact kind_param a0_0 a0_1 w (by omega)
 ·
  cases h
end Go.Proofs.Ytfplcohjnlbfjaa.Hand
end

section
namespace Go.Proofs.Ytfplcohjnlbfjaa.Q8
open Go.RowKit Go.Proofs.YtfplcohjnlbfjaaW
open PrintWords PrintLast PrintMore Go.Proofs.Ytfplcohjnlbfjaa.Hand
attribute [local go_sem] max2_int min2_int max_two min_two max_three min_three max_four min_four
end Go.Proofs.Ytfplcohjnlbfjaa.Q8
end

section
namespace Go.Proofs.Ytfplcohjnlbfjaa.Hand
open Go.RowKit Go.Proofs.YtfplcohjnlbfjaaW
open PrintWords PrintLast PrintMore
def ofS (x : S97) : Ty := (x.f0, bl x.f1)
theorem ofS_inj {x y : S97} (h : ofS x = ofS y) : x = y := by
 obtain ⟨a,b⟩:=x
 obtain ⟨c,d⟩:=y
 unfold ofS at h
 simp only [Prod.mk.injEq] at h
 obtain ⟨rfl,h2⟩:=h
 rw [bl_inj h2]
def splitEnd (acc : List Ty) (q : Option (List Ty × List UInt8)) : List Ty × Ty × Int := match q with
 | some (ps,r) => (match oneT classL r with
  | some (t,[]) => if (acc ++ ps).length ≤ 8 then (acc ++ ps,t,0) else ([],(0,[]),3)
  | _ => ([],(0,[]),1))
 | none => ([],(0,[]),1)
theorem splitEnd_cons (acc : List Ty) (t : Ty) (q : Option (List Ty × List UInt8)) : splitEnd acc (q.map fun p => (t :: p.1, p.2)) = splitEnd (acc ++ [t]) q := by
 cases q with
 | none => rfl
 | some p =>
  unfold splitEnd
  simp only [Option.map_some,List.append_assoc,List.singleton_append]
theorem splitR_loop (s : ByteArray) (hs : s.size ≤ 64) : ∀ (d i k F : Nat) (acc : List (S97)), s.size - i = d → 1 ≤ i → i ≤ s.size → 2 * d + s.size + 10 ≤ k → d < F → acc.length ≤ i →
  Q8.sr06_Split.l0 k s acc (i : Int) = some (((splitEnd (acc.map ofS) (typesF classL F ((bl s).drop i))).1.map toS,(splitEnd (acc.map ofS) (typesF classL F ((bl s).drop i))).2.1.1,lb (splitEnd (acc.map ofS) (typesF classL F ((bl s).drop i))).2.1.2,(splitEnd (acc.map ofS) (typesF classL F ((bl s).drop i))).2.2)):=by
 intro d
 induction d using Nat.strongRecOn with
 | ind d ih =>
  intro i k F acc hd h1 hi hk hF hacc
  obtain ⟨k,rfl⟩ : ∃ j,k = j + 2:=⟨k - 2,by omega⟩
  obtain ⟨F,rfl⟩ : ∃ j,F = j + 1:=⟨F - 1,by omega⟩
  have hto : ∀ l : List (S97),(l.map ofS).map toS = l:=fun l => by
   rw [List.map_map]
   conv => rhs;rw [← List.map_id l]
   exact List.map_congr_left fun x _ => by
    show toS (ofS x) = x
    apply ofS_inj
    rfl
  rw [Q8.sr06_Split.l0]
  by_cases hlt : i < s.size
  ·
   obtain ⟨b,hb1,hb2,hdr⟩:=bt_bl s i hlt
   rw [if_pos (by omega),if_pos (by omega),hb2,Q8.sr06_Split.j2]
   by_cases h41 : b = 41
   ·
    have e : ((b.toNat : Int) != 41) = false:=by rw [h41];rfl
    have hw : wrap64 ((i : Int) + 1) = ((i + 1 : Nat) : Int):=by rw [wrap_in (by omega) (by omega)];omega
    have hx : bl (s.extract (i + 1) s.size) = (bl s).drop (i + 1):=bl_drop s (i + 1)
    have hxs:=extract_size s (i + 1) s.size
    have hT : typesF classL (F + 1) ((bl s).drop i) = some ([],(bl s).drop (i + 1)):=by
     rw [hdr,typesF,List.head?_cons,if_pos (by rw [h41]),List.tail_cons]
    rw [e,if_neg (by decide),if_neg (by omega),hw,if_pos (by omega),if_pos (by omega),Int.toNat_natCast,parseTR_eq _ (by omega) k (by omega),Option.bind_some,hx,hT]
    unfold splitEnd parseT
    simp only [List.append_nil,List.length_map]
    cases ho : oneT classL ((bl s).drop (i + 1)) with
    | none => rfl
    | some q =>
     obtain ⟨t,r⟩:=q
     cases r with
     | cons x r => rfl
     | nil =>
      simp only
      rw [if_pos trivial]
      by_cases h8 : acc.length ≤ 8
      ·
       rw [if_neg (by omega),if_pos h8]
       simp only [hto]
      ·
       rw [if_pos (by omega),if_neg h8]
       rfl
   ·
    have e : ((b.toNat : Int) != 41) = true:=by
     have : ((b.toNat : Int) == 41) = false:=beq_eq_false_iff_ne.2 fun h => h41 ((byte_is (c:=41) (m:=41) (by decide)).1 h)
     unfold bne
     rw [this]
     rfl
    have hN:=next_is s (by omega) i (by omega) k (by omega)
    rw [e,if_pos rfl]
    have hT : typesF classL (F + 1) ((bl s).drop i) = match oneT classL ((bl s).drop i) with
      | some (t,r) => if t.1 = 1 then none else (typesF classL F r).map fun p => (t :: p.1,p.2)
      | none => none:=by
     rw [typesF,if_neg (by rw [hdr,List.head?_cons];simpa using h41)]
     rfl
    rw [hT]
    cases ho : oneT classL ((bl s).drop i) with
    | none =>
     rw [ho] at hN
     obtain ⟨a,b,c,hN⟩:=hN
     rw [hN,Option.bind_some]
     dsimp only
     rw [if_neg (by decide)]
     rfl
    | some q =>
     obtain ⟨t,r⟩:=q
     have hback:=(one_back ho)
     rw [ho] at hN
     obtain ⟨hN1,hN⟩:=hN
     rw [hN,Option.bind_some]
     dsimp only
     rw [if_pos rfl]
     by_cases hv : t.1 = 1
     ·
      rw [if_pos hv,if_pos hv]
      rfl
     ·
      have hlen:=congrArg List.length hback.2
      rw [List.length_append,List.length_drop,bl_len] at hlen
      obtain ⟨x,y,hxy,_⟩:=text_ne hback.1
      rw [hxy,List.length_cons] at hlen
      have hr : r = (bl s).drop (s.size - r.length):=by
       have h3:=congrArg (List.drop (textT classL t).length) hback.2
       rw [List.drop_left,List.drop_drop] at h3
       have h4 : (textT classL t).length = y.length + 1:=by rw [hxy,List.length_cons]
       have h5 : s.size - r.length = i + (textT classL t).length:=by omega
       rw [h5]
       exact h3.symm
      rw [if_neg hv,if_neg hv,if_pos (by omega)]
      have hih:=ih (s.size - (s.size - r.length)) (by omega) (s.size - r.length) k F (acc ++ [⟨t.1,lb t.2⟩]) rfl (by omega) (by omega) (by omega) (by omega) (by rw [List.length_append];simp;omega)
      rw [← hr] at hih
      rw [hih,splitEnd_cons,List.map_append]
      rfl
  ·
   have e : typesF classL (F + 1) ((bl s).drop i) = none:=by
    rw [List.drop_of_length_le (by rw [bl_len];omega)]
    rfl
   rw [if_neg (by omega),Q8.sr06_Split.j2,if_neg (by decide),if_pos (by omega),e]
   rfl
theorem splitR_eq (s : ByteArray) (k : Nat) (hk : 300 ≤ k) :
  Q8.sr06_Split.f k s = some ((splitD classL (bl s)).1.map toS,(splitD classL (bl s)).2.1.1,lb (splitD classL (bl s)).2.1.2,(splitD classL (bl s)).2.2):=by
 obtain ⟨k,rfl⟩ : ∃ j,k = j + 1:=⟨k - 1,by omega⟩
 unfold Q8.sr06_Split.f splitD
 by_cases h64 : s.size > 64
 ·
  rw [if_pos (show (s.size : Int) > 64 by omega),if_pos (show (bl s).length > 64 by rw [bl_len];exact h64)]
  rfl
 ·
  rw [if_neg (show ¬ (s.size : Int) > 64 by omega),if_neg (show ¬ (bl s).length > 64 by rw [bl_len];exact h64)]
  by_cases h0 : s.size = 0
  ·
   have e : (bl s) = []:=List.eq_nil_of_length_eq_zero (by rw [bl_len];exact h0)
   rw [if_pos (by omega),Q8.sr06_Split.j0,if_pos rfl,e]
   rfl
  ·
   obtain ⟨b,hb1,hb2,hdr⟩:=bt_bl s 0 (by omega)
   rw [List.drop_zero] at hdr
   have hb2' : bt s 0 = (b.toNat : Int):=hb2
   rw [if_neg (by omega),if_pos (by omega),hb2',Q8.sr06_Split.j0]
   by_cases h40 : b = 40
   ·
    have e : ((b.toNat : Int) != 40) = false:=by rw [h40];rfl
    have h:=splitR_loop s (by omega) _ 1 k 65 [] rfl (by omega) (by omega) (by omega) (by omega) (by simp)
    rw [e,if_neg (by decide)]
    rw [hdr,List.head?_cons,if_pos (by rw [h40]),List.tail_cons]
    have h' : Q8.sr06_Split.l0 k s [] 1 = _:=h
    rw [h']
    unfold splitEnd
    simp only [List.map_nil,List.nil_append]
    cases typesF classL 65 (List.drop (0 + 1) (bl s)) with
    | none => rfl
    | some q => rfl
   ·
    have e : ((b.toNat : Int) != 40) = true:=by
     have : ((b.toNat : Int) == 40) = false:=beq_eq_false_iff_ne.2 fun h => h40 ((byte_is (c:=40) (m:=40) (by decide)).1 h)
     unfold bne
     rw [this]
     rfl
    rw [e,if_pos rfl,hdr,List.head?_cons,if_neg (by simpa using h40)]
    rfl
def sr06_Split.f (s : ByteArray) : Option (List (S97) × Int × ByteArray × Int) := some ((splitD classL (bl s)).1.map toS, (splitD classL (bl s)).2.1.1, lb (splitD classL (bl s)).2.1.2, (splitD classL (bl s)).2.2)
theorem sr06_Split.calls (a0 : ByteArray) (r1 : List (S97)) (r2 : Int) (r3 : ByteArray) (r4 : Int) (w : World) (h : sr06_Split.f a0 = some (r1, r2, r3, r4)) :
  Calls Try.prog 48 #[.string a0] w fun e w' => ∃ v0_ : Value,e = .returned (.tuple #[v0_,.agg #[.int .i64 r2,.string r3],.int .i64 r4]) ∧ Kd.R k97 97 w' w.heap.size (fun _ => True) v0_ r1 ∧ Below w.heap.size w w' :=
 Q8.sr06_Split.calls 300 a0 r1 r2 r3 r4 w ((splitR_eq a0 300 (Nat.le_refl _)).trans h)
end Go.Proofs.Ytfplcohjnlbfjaa.Hand
end

section
namespace Go.Proofs.Ytfplcohjnlbfjaa.Q52
open Go.RowKit Go.Proofs.YtfplcohjnlbfjaaW
open PrintWords PrintLast PrintMore Go.Proofs.Ytfplcohjnlbfjaa.Hand
attribute [local go_sem] max2_int min2_int max_two min_two max_three min_three max_four min_four
def errW : Option Int → Value
  | none => .nilIface
  | some c => .iface 0 (.int .i64 c)
theorem errW_none : errW none = .nilIface := rfl
theorem errW_some (c : Int) : errW (some c) = .iface 0 (.int .i64 c) := rfl
theorem info9 : (Try.prog.info? 9).map (fun i => (i.zero, i.size, i.bytes)) = some (some (.string ⟨#[]⟩), 1, 16) := by kernel_rfl
def sr08_Class.l0 : Nat → ByteArray → Int → List (S33) → List ByteArray → ByteArray → ByteArray → ByteArray → Option (Int)
  | 0,_,_,_,_,_,_,_ => none
  | k + 1,x1,x5,x102000,x102001,x102002,x102003,x102004 => if x5 < (x102000.length : Int) then (if 0 ≤ x5 then (if ((rd_T33 x102000 x5).f0).toList = x1.toList then (some x5) else (sr08_Class.l0 k x1 (wrap64 (x5 + 1)) x102000 x102001 x102002 x102003 x102004)) else (none)) else (some (-1))
def sr08_Class.f (k : Nat) (l0_0 : List (S33)) (l0_1 : List ByteArray) (a0_2 : ByteArray) (a0_3 : ByteArray) (a0_4 : ByteArray) (a1 : ByteArray) : Option (Int) := sr08_Class.l0 k a1 0 l0_0 l0_1 a0_2 a0_3 a0_4
theorem sr08_Class.calls (k : Nat) (A0_0 : Option Addr) (c0_0 : Nat) (l0_0 : List (S33)) (A0_1 : Option Addr) (c0_1 : Nat) (l0_1 : List ByteArray) (a0_2 : ByteArray) (a0_3 : ByteArray) (a0_4 : ByteArray) (a1 : ByteArray) (r : Int) (w : World) (hr0_0 : Kd.C k33 w A0_0 l0_0.length l0_0) (hc0_0 : l0_0.length ≤ c0_0) (hr0_1 : Kd.C Kd.string w A0_1 l0_1.length l0_1) (hc0_1 : l0_1.length ≤ c0_1) (h : sr08_Class.f k l0_0 l0_1 a0_2 a0_3 a0_4 a1 = some r) :
    Calls Try.prog 68 #[.agg #[.slice A0_0 l0_0.length c0_0,.slice A0_1 l0_1.length c0_1,.string a0_2,.string a0_3,.string a0_4],.string a1] w fun e w' => e = .returned (.int .i64 r) ∧ Below w.heap.size w w':=by
 have hu27:=Try.underlying27
 have HR0_0:=aq hr0_0
 have HC0_0:=aq hc0_0
 clear hr0_0 hc0_0
 have HR0_1:=aq hr0_1
 have HC0_1:=aq hc0_1
 clear hr0_1 hc0_1
 have HB:=aq (Below.refl w.heap.size w)
 have H : (sr08_Class.l0 k a1 0 l0_0 l0_1 a0_2 a0_3 a0_4) = some r:=h
 clear h
 have H':=aq H
 clear H
 go_enter Try.func68,Try.ntmps68
 go_wp2_with (first|((with_reducible refine gate_dst (N:=2) rfl ?_);refine box_event rfl (N:=2) rfl (cs:=#[.slice A0_0 l0_0.length c0_0,.slice A0_1 l0_1.length c0_1,.string a0_2,.string a0_3,.string a0_4]) (t:=27) gS ?_;intro gb101 hg w3 hbox hb;have BK101:=aq (hbox);have GE101:=aq ((GN hg : w.heap.size ≤ gb101));replace HB:=aq (below_step bH hb);clear hb hbox hg))
 go_loopg [5] k (fun kq v5 w' => ∃ (x5_1 : Int),v5 = .int .i64 x5_1 ∧ Aside0 (sr08_Class.l0 kq a1 x5_1 l0_0 l0_1 a0_2 a0_3 a0_4 = some r) ∧ Aside0 (kq ≤ k) ∧ Aside0 (w'.heap[gb101]? = some (.cells #[(.slice A0_0 l0_0.length c0_0),(.slice A0_1 l0_1.length c0_1),.string a0_2,.string a0_3,.string a0_4] 27 (0,0))) ∧ Aside0 (Below w.heap.size w w'))
 case atStart => exact ⟨(0),eS,H',⟨Nat.le_refl _⟩,⟨KU BK101.out⟩,⟨bH⟩⟩
 case round =>
 clear H'
 obtain ⟨x5_1,rfl,HA,HK1,BK101,HB⟩:=hrel
 cases gk with
 | zero => exact absurd HA.out (by simp [sr08_Class.l0])
 | succ k1 =>
 have H:=HA.out
 clear HA
 simp only [sr08_Class.l0] at H
 by_cases c4 : x5_1 < (l0_0.length : Int)
 rotate_left
 · rw [if_neg c4] at H
   have c4b0 : decide (x5_1 < (l0_0.length : Int)) = false:=decide_eq_false c4
   clear c4
   obtain rfl:=Option.some.inj H
   have hcz9_0 : wr.cell? ⟨gb101,0,none⟩ = some (.slice A0_0 l0_0.length c0_0):=(blk_cell BK101.out 0).trans rfl
   have hcz9_1 : wr.cell? ⟨gb101,1,none⟩ = some (.slice A0_1 l0_1.length c0_1):=(blk_cell BK101.out 1).trans rfl
   have hcz9_2 : wr.cell? ⟨gb101,2,none⟩ = some (.string a0_2):=(blk_cell BK101.out 2).trans rfl
   have hcz9_3 : wr.cell? ⟨gb101,3,none⟩ = some (.string a0_3):=(blk_cell BK101.out 3).trans rfl
   have hcz9_4 : wr.cell? ⟨gb101,4,none⟩ = some (.string a0_4):=(blk_cell BK101.out 4).trans rfl
   have hfz9_0:=blk_frozen BK101.out 0
   have hfz9_1:=blk_frozen BK101.out 1
   have hfz9_2:=blk_frozen BK101.out 2
   have hfz9_3:=blk_frozen BK101.out 3
   have hfz9_4:=blk_frozen BK101.out 4
   go_wp2
   go_ret
   exact ⟨eR,bH⟩
 rw [if_pos c4] at H
 have c4b0 : decide (x5_1 < (l0_0.length : Int)) = true:=decide_eq_true c4
 clear c4
 by_cases c5 : 0 ≤ x5_1
 rotate_left
 · rw [if_neg c5] at H
   exact absurd H (by simp)
 rw [if_pos c5] at H
 have c5b0 : decide (0 ≤ x5_1) = true:=decide_eq_true c5
 clear c5
 by_cases c6 : ((rd_T33 l0_0 x5_1).f0).toList = a1.toList
 · rw [if_pos c6] at H
   have c6b0 : (((rd_T33 l0_0 x5_1).f0).toList == a1.toList) = true:=beq_iff_eq.mpr c6
   have c6b1 : (((rd_T33 l0_0 x5_1).f0).toList != a1.toList) = false:=bne_eq_false_iff_eq.mpr c6
   clear c6
   obtain rfl:=Option.some.inj H
   have hcz7_0 : wr.cell? ⟨gb101,0,none⟩ = some (.slice A0_0 l0_0.length c0_0):=(blk_cell BK101.out 0).trans rfl
   have hcz7_1 : wr.cell? ⟨gb101,1,none⟩ = some (.slice A0_1 l0_1.length c0_1):=(blk_cell BK101.out 1).trans rfl
   have hcz7_2 : wr.cell? ⟨gb101,2,none⟩ = some (.string a0_2):=(blk_cell BK101.out 2).trans rfl
   have hcz7_3 : wr.cell? ⟨gb101,3,none⟩ = some (.string a0_3):=(blk_cell BK101.out 3).trans rfl
   have hcz7_4 : wr.cell? ⟨gb101,4,none⟩ = some (.string a0_4):=(blk_cell BK101.out 4).trans rfl
   have hfz7_0:=blk_frozen BK101.out 0
   have hfz7_1:=blk_frozen BK101.out 1
   have hfz7_2:=blk_frozen BK101.out 2
   have hfz7_3:=blk_frozen BK101.out 3
   have hfz7_4:=blk_frozen BK101.out 4
   have p102 : 0 ≤ (x5_1 : Int):=of_decide_eq_true aS
   have q102 : x5_1 < (l0_0.length : Int):=of_decide_eq_true aS
   obtain ⟨ad102,A102_4,c102_4,A102_5,c102_5,A102_6,c102_6,e102,hx102_0,hx102_1,hx102_2,hx102_3,hx102_4,hx102_5,hx102_6,hl102_4,hi102_4,hl102_5,hi102_5,hl102_6,hi102_6⟩:=at_T33 HR0_0.out x5_1 p102 q102
   cases e102
   replace hx102_0:=(HB.out.cell (World.block_lt_of_cell? w _ hx102_0)).trans hx102_0
   replace hx102_1:=(HB.out.cell (World.block_lt_of_cell? w _ hx102_1)).trans hx102_1
   replace hx102_2:=(HB.out.cell (World.block_lt_of_cell? w _ hx102_2)).trans hx102_2
   replace hx102_3:=(HB.out.cell (World.block_lt_of_cell? w _ hx102_3)).trans hx102_3
   replace hx102_4:=(HB.out.cell (World.block_lt_of_cell? w _ hx102_4)).trans hx102_4
   replace hx102_5:=(HB.out.cell (World.block_lt_of_cell? w _ hx102_5)).trans hx102_5
   replace hx102_6:=(HB.out.cell (World.block_lt_of_cell? w _ hx102_6)).trans hx102_6
   have HR102_4:=aq hi102_4
   have HC102_4:=aq hl102_4
   clear hi102_4 hl102_4
   have HR102_5:=aq hi102_5
   have HC102_5:=aq hl102_5
   clear hi102_5 hl102_5
   have HR102_6:=aq hi102_6
   have HC102_6:=aq hl102_6
   clear hi102_6 hl102_6
   replace p102:=eq_true p102
   replace q102:=eq_true q102
   go_wp2
   go_ret
   exact ⟨eR,bH⟩
 rw [if_neg c6] at H
 have c6b0 : (((rd_T33 l0_0 x5_1).f0).toList == a1.toList) = false:=beq_eq_false_iff_ne.mpr c6
 have c6b1 : (((rd_T33 l0_0 x5_1).f0).toList != a1.toList) = true:=bne_iff_ne.mpr c6
 have H':=aq H
 clear H
 have hcz8_0 : wr.cell? ⟨gb101,0,none⟩ = some (.slice A0_0 l0_0.length c0_0):=(blk_cell BK101.out 0).trans rfl
 have hcz8_1 : wr.cell? ⟨gb101,1,none⟩ = some (.slice A0_1 l0_1.length c0_1):=(blk_cell BK101.out 1).trans rfl
 have hcz8_2 : wr.cell? ⟨gb101,2,none⟩ = some (.string a0_2):=(blk_cell BK101.out 2).trans rfl
 have hcz8_3 : wr.cell? ⟨gb101,3,none⟩ = some (.string a0_3):=(blk_cell BK101.out 3).trans rfl
 have hcz8_4 : wr.cell? ⟨gb101,4,none⟩ = some (.string a0_4):=(blk_cell BK101.out 4).trans rfl
 have hfz8_0:=blk_frozen BK101.out 0
 have hfz8_1:=blk_frozen BK101.out 1
 have hfz8_2:=blk_frozen BK101.out 2
 have hfz8_3:=blk_frozen BK101.out 3
 have hfz8_4:=blk_frozen BK101.out 4
 have p102 : 0 ≤ (x5_1 : Int):=of_decide_eq_true aS
 have q102 : x5_1 < (l0_0.length : Int):=of_decide_eq_true aS
 obtain ⟨ad102,A102_4,c102_4,A102_5,c102_5,A102_6,c102_6,e102,hx102_0,hx102_1,hx102_2,hx102_3,hx102_4,hx102_5,hx102_6,hl102_4,hi102_4,hl102_5,hi102_5,hl102_6,hi102_6⟩:=at_T33 HR0_0.out x5_1 p102 q102
 cases e102
 replace hx102_0:=(HB.out.cell (World.block_lt_of_cell? w _ hx102_0)).trans hx102_0
 replace hx102_1:=(HB.out.cell (World.block_lt_of_cell? w _ hx102_1)).trans hx102_1
 replace hx102_2:=(HB.out.cell (World.block_lt_of_cell? w _ hx102_2)).trans hx102_2
 replace hx102_3:=(HB.out.cell (World.block_lt_of_cell? w _ hx102_3)).trans hx102_3
 replace hx102_4:=(HB.out.cell (World.block_lt_of_cell? w _ hx102_4)).trans hx102_4
 replace hx102_5:=(HB.out.cell (World.block_lt_of_cell? w _ hx102_5)).trans hx102_5
 replace hx102_6:=(HB.out.cell (World.block_lt_of_cell? w _ hx102_6)).trans hx102_6
 have HR102_4:=aq hi102_4
 have HC102_4:=aq hl102_4
 clear hi102_4 hl102_4
 have HR102_5:=aq hi102_5
 have HC102_5:=aq hl102_5
 clear hi102_5 hl102_5
 have HR102_6:=aq hi102_6
 have HC102_6:=aq hl102_6
 clear hi102_6 hl102_6
 replace p102:=eq_true p102
 replace q102:=eq_true q102
 go_wp2
 go_roundg k1
 case measure => have:=HK1.out;omega
 case rel => exact ⟨(wrap64 (x5_1 + 1)),eS,H',⟨by have:=HK1.out;omega⟩,⟨KU BK101.out⟩,⟨bH⟩⟩
def sr08_Method.l0 : Nat → ByteArray → ByteArray → Int → ByteArray → ByteArray → Bool → Bool → List ByteArray → List (S103) → List (S37) → Option (Int)
  | 0,_,_,_,_,_,_,_,_,_,_ => none
  | k + 1,x1,x2,x7,x104000,x104001,x104002,x104003,x104004,x104005,x104006 => if x7 < (x104006.length : Int) then (if 0 ≤ x7 then (if ((rd_T37 x104006 x7).f0).toList = x1.toList then (if ((rd_T37 x104006 x7).f1).toList = x2.toList then (some x7) else (sr08_Method.l0 k x1 x2 (wrap64 (x7 + 1)) x104000 x104001 x104002 x104003 x104004 x104005 x104006)) else (sr08_Method.l0 k x1 x2 (wrap64 (x7 + 1)) x104000 x104001 x104002 x104003 x104004 x104005 x104006)) else (none)) else (some (-1))
def sr08_Method.f (k : Nat) (a0_0 : ByteArray) (a0_1 : ByteArray) (a0_2 : Bool) (a0_3 : Bool) (l0_4 : List ByteArray) (l0_5 : List (S103)) (l0_6 : List (S37)) (a1 : ByteArray) (a2 : ByteArray) : Option (Int) := sr08_Method.l0 k a1 a2 0 a0_0 a0_1 a0_2 a0_3 l0_4 l0_5 l0_6
theorem sr08_Method.calls (k : Nat) (a0_0 : ByteArray) (a0_1 : ByteArray) (a0_2 : Bool) (a0_3 : Bool) (A0_4 : Option Addr) (c0_4 : Nat) (l0_4 : List ByteArray) (A0_5 : Option Addr) (c0_5 : Nat) (l0_5 : List (S103)) (A0_6 : Option Addr) (c0_6 : Nat) (l0_6 : List (S37)) (a1 : ByteArray) (a2 : ByteArray) (r : Int) (w : World) (hr0_4 : Kd.C Kd.string w A0_4 l0_4.length l0_4) (hc0_4 : l0_4.length ≤ c0_4) (hr0_5 : Kd.C k103 w A0_5 l0_5.length l0_5) (hc0_5 : l0_5.length ≤ c0_5) (hr0_6 : Kd.C k37 w A0_6 l0_6.length l0_6) (hc0_6 : l0_6.length ≤ c0_6) (h : sr08_Method.f k a0_0 a0_1 a0_2 a0_3 l0_4 l0_5 l0_6 a1 a2 = some r) :
    Calls Try.prog 45 #[.agg #[.string a0_0,.string a0_1,.bool a0_2,.bool a0_3,.slice A0_4 l0_4.length c0_4,.slice A0_5 l0_5.length c0_5,.slice A0_6 l0_6.length c0_6],.string a1,.string a2] w fun e w' => e = .returned (.int .i64 r) ∧ Below w.heap.size w w':=by
 have hu33:=Try.underlying33
 have HR0_4:=aq hr0_4
 have HC0_4:=aq hc0_4
 clear hr0_4 hc0_4
 have HR0_5:=aq hr0_5
 have HC0_5:=aq hc0_5
 clear hr0_5 hc0_5
 have HR0_6:=aq hr0_6
 have HC0_6:=aq hc0_6
 clear hr0_6 hc0_6
 have HB:=aq (Below.refl w.heap.size w)
 have H : (sr08_Method.l0 k a1 a2 0 a0_0 a0_1 a0_2 a0_3 l0_4 l0_5 l0_6) = some r:=h
 clear h
 have H':=aq H
 clear H
 go_enter Try.func45,Try.ntmps45
 go_wp2_with (first|((with_reducible refine gate_dst (N:=3) rfl ?_);refine box_event rfl (N:=3) rfl (cs:=#[.string a0_0,.string a0_1,.bool a0_2,.bool a0_3,.slice A0_4 l0_4.length c0_4,.slice A0_5 l0_5.length c0_5,.slice A0_6 l0_6.length c0_6]) (t:=33) gS ?_;intro gb103 hg w4 hbox hb;have BK103:=aq (hbox);have GE103:=aq ((GN hg : w.heap.size ≤ gb103));replace HB:=aq (below_step bH hb);clear hb hbox hg))
 go_loopg [7] k (fun kq v7 w' => ∃ (x7_1 : Int),v7 = .int .i64 x7_1 ∧ Aside0 (sr08_Method.l0 kq a1 a2 x7_1 a0_0 a0_1 a0_2 a0_3 l0_4 l0_5 l0_6 = some r) ∧ Aside0 (kq ≤ k) ∧ Aside0 (w'.heap[gb103]? = some (.cells #[.string a0_0,.string a0_1,.bool a0_2,.bool a0_3,(.slice A0_4 l0_4.length c0_4),(.slice A0_5 l0_5.length c0_5),(.slice A0_6 l0_6.length c0_6)] 33 (0,0))) ∧ Aside0 (Below w.heap.size w w'))
 case atStart => exact ⟨(0),eS,H',⟨Nat.le_refl _⟩,⟨KU BK103.out⟩,⟨bH⟩⟩
 case round =>
 clear H'
 obtain ⟨x7_1,rfl,HA,HK1,BK103,HB⟩:=hrel
 cases gk with
 | zero => exact absurd HA.out (by simp [sr08_Method.l0])
 | succ k1 =>
 have H:=HA.out
 clear HA
 simp only [sr08_Method.l0] at H
 by_cases c5 : x7_1 < (l0_6.length : Int)
 rotate_left
 · rw [if_neg c5] at H
   have c5b0 : decide (x7_1 < (l0_6.length : Int)) = false:=decide_eq_false c5
   clear c5
   obtain rfl:=Option.some.inj H
   have hcz12_0 : wr.cell? ⟨gb103,0,none⟩ = some (.string a0_0):=(blk_cell BK103.out 0).trans rfl
   have hcz12_1 : wr.cell? ⟨gb103,1,none⟩ = some (.string a0_1):=(blk_cell BK103.out 1).trans rfl
   have hcz12_2 : wr.cell? ⟨gb103,2,none⟩ = some (.bool a0_2):=(blk_cell BK103.out 2).trans rfl
   have hcz12_3 : wr.cell? ⟨gb103,3,none⟩ = some (.bool a0_3):=(blk_cell BK103.out 3).trans rfl
   have hcz12_4 : wr.cell? ⟨gb103,4,none⟩ = some (.slice A0_4 l0_4.length c0_4):=(blk_cell BK103.out 4).trans rfl
   have hcz12_5 : wr.cell? ⟨gb103,5,none⟩ = some (.slice A0_5 l0_5.length c0_5):=(blk_cell BK103.out 5).trans rfl
   have hcz12_6 : wr.cell? ⟨gb103,6,none⟩ = some (.slice A0_6 l0_6.length c0_6):=(blk_cell BK103.out 6).trans rfl
   have hfz12_0:=blk_frozen BK103.out 0
   have hfz12_1:=blk_frozen BK103.out 1
   have hfz12_2:=blk_frozen BK103.out 2
   have hfz12_3:=blk_frozen BK103.out 3
   have hfz12_4:=blk_frozen BK103.out 4
   have hfz12_5:=blk_frozen BK103.out 5
   have hfz12_6:=blk_frozen BK103.out 6
   go_wp2
   go_ret
   exact ⟨eR,bH⟩
 rw [if_pos c5] at H
 have c5b0 : decide (x7_1 < (l0_6.length : Int)) = true:=decide_eq_true c5
 clear c5
 by_cases c6 : 0 ≤ x7_1
 rotate_left
 · rw [if_neg c6] at H
   exact absurd H (by simp)
 rw [if_pos c6] at H
 have c6b0 : decide (0 ≤ x7_1) = true:=decide_eq_true c6
 clear c6
 by_cases c7 : ((rd_T37 l0_6 x7_1).f0).toList = a1.toList
 rotate_left
 · rw [if_neg c7] at H
   have c7b0 : (((rd_T37 l0_6 x7_1).f0).toList == a1.toList) = false:=beq_eq_false_iff_ne.mpr c7
   have c7b1 : (((rd_T37 l0_6 x7_1).f0).toList != a1.toList) = true:=bne_iff_ne.mpr c7
   have H':=aq H
   clear H
   have hcz11_0 : wr.cell? ⟨gb103,0,none⟩ = some (.string a0_0):=(blk_cell BK103.out 0).trans rfl
   have hcz11_1 : wr.cell? ⟨gb103,1,none⟩ = some (.string a0_1):=(blk_cell BK103.out 1).trans rfl
   have hcz11_2 : wr.cell? ⟨gb103,2,none⟩ = some (.bool a0_2):=(blk_cell BK103.out 2).trans rfl
   have hcz11_3 : wr.cell? ⟨gb103,3,none⟩ = some (.bool a0_3):=(blk_cell BK103.out 3).trans rfl
   have hcz11_4 : wr.cell? ⟨gb103,4,none⟩ = some (.slice A0_4 l0_4.length c0_4):=(blk_cell BK103.out 4).trans rfl
   have hcz11_5 : wr.cell? ⟨gb103,5,none⟩ = some (.slice A0_5 l0_5.length c0_5):=(blk_cell BK103.out 5).trans rfl
   have hcz11_6 : wr.cell? ⟨gb103,6,none⟩ = some (.slice A0_6 l0_6.length c0_6):=(blk_cell BK103.out 6).trans rfl
   have hfz11_0:=blk_frozen BK103.out 0
   have hfz11_1:=blk_frozen BK103.out 1
   have hfz11_2:=blk_frozen BK103.out 2
   have hfz11_3:=blk_frozen BK103.out 3
   have hfz11_4:=blk_frozen BK103.out 4
   have hfz11_5:=blk_frozen BK103.out 5
   have hfz11_6:=blk_frozen BK103.out 6
   have p104 : 0 ≤ (x7_1 : Int):=of_decide_eq_true aS
   have q104 : x7_1 < (l0_6.length : Int):=of_decide_eq_true aS
   obtain ⟨ad104,A104_5,c104_5,e104,hx104_0,hx104_1,hx104_2,hx104_3,hx104_4,hx104_5,hl104_5,hi104_5⟩:=at_T37 HR0_6.out x7_1 p104 q104
   cases e104
   replace hx104_0:=(HB.out.cell (World.block_lt_of_cell? w _ hx104_0)).trans hx104_0
   replace hx104_1:=(HB.out.cell (World.block_lt_of_cell? w _ hx104_1)).trans hx104_1
   replace hx104_2:=(HB.out.cell (World.block_lt_of_cell? w _ hx104_2)).trans hx104_2
   replace hx104_3:=(HB.out.cell (World.block_lt_of_cell? w _ hx104_3)).trans hx104_3
   replace hx104_4:=(HB.out.cell (World.block_lt_of_cell? w _ hx104_4)).trans hx104_4
   replace hx104_5:=(HB.out.cell (World.block_lt_of_cell? w _ hx104_5)).trans hx104_5
   have HR104_5:=aq hi104_5
   have HC104_5:=aq hl104_5
   clear hi104_5 hl104_5
   replace p104:=eq_true p104
   replace q104:=eq_true q104
   go_wp2
   go_roundg k1
   case measure => have:=HK1.out;omega
   case rel => exact ⟨(wrap64 (x7_1 + 1)),eS,H',⟨by have:=HK1.out;omega⟩,⟨KU BK103.out⟩,⟨bH⟩⟩
 rw [if_pos c7] at H
 have c7b0 : (((rd_T37 l0_6 x7_1).f0).toList == a1.toList) = true:=beq_iff_eq.mpr c7
 have c7b1 : (((rd_T37 l0_6 x7_1).f0).toList != a1.toList) = false:=bne_eq_false_iff_eq.mpr c7
 clear c7
 by_cases c8 : ((rd_T37 l0_6 x7_1).f1).toList = a2.toList
 · rw [if_pos c8] at H
   have c8b0 : (((rd_T37 l0_6 x7_1).f1).toList == a2.toList) = true:=beq_iff_eq.mpr c8
   have c8b1 : (((rd_T37 l0_6 x7_1).f1).toList != a2.toList) = false:=bne_eq_false_iff_eq.mpr c8
   clear c8
   obtain rfl:=Option.some.inj H
   have hcz9_0 : wr.cell? ⟨gb103,0,none⟩ = some (.string a0_0):=(blk_cell BK103.out 0).trans rfl
   have hcz9_1 : wr.cell? ⟨gb103,1,none⟩ = some (.string a0_1):=(blk_cell BK103.out 1).trans rfl
   have hcz9_2 : wr.cell? ⟨gb103,2,none⟩ = some (.bool a0_2):=(blk_cell BK103.out 2).trans rfl
   have hcz9_3 : wr.cell? ⟨gb103,3,none⟩ = some (.bool a0_3):=(blk_cell BK103.out 3).trans rfl
   have hcz9_4 : wr.cell? ⟨gb103,4,none⟩ = some (.slice A0_4 l0_4.length c0_4):=(blk_cell BK103.out 4).trans rfl
   have hcz9_5 : wr.cell? ⟨gb103,5,none⟩ = some (.slice A0_5 l0_5.length c0_5):=(blk_cell BK103.out 5).trans rfl
   have hcz9_6 : wr.cell? ⟨gb103,6,none⟩ = some (.slice A0_6 l0_6.length c0_6):=(blk_cell BK103.out 6).trans rfl
   have hfz9_0:=blk_frozen BK103.out 0
   have hfz9_1:=blk_frozen BK103.out 1
   have hfz9_2:=blk_frozen BK103.out 2
   have hfz9_3:=blk_frozen BK103.out 3
   have hfz9_4:=blk_frozen BK103.out 4
   have hfz9_5:=blk_frozen BK103.out 5
   have hfz9_6:=blk_frozen BK103.out 6
   have p104 : 0 ≤ (x7_1 : Int):=of_decide_eq_true aS
   have q104 : x7_1 < (l0_6.length : Int):=of_decide_eq_true aS
   obtain ⟨ad104,A104_5,c104_5,e104,hx104_0,hx104_1,hx104_2,hx104_3,hx104_4,hx104_5,hl104_5,hi104_5⟩:=at_T37 HR0_6.out x7_1 p104 q104
   cases e104
   replace hx104_0:=(HB.out.cell (World.block_lt_of_cell? w _ hx104_0)).trans hx104_0
   replace hx104_1:=(HB.out.cell (World.block_lt_of_cell? w _ hx104_1)).trans hx104_1
   replace hx104_2:=(HB.out.cell (World.block_lt_of_cell? w _ hx104_2)).trans hx104_2
   replace hx104_3:=(HB.out.cell (World.block_lt_of_cell? w _ hx104_3)).trans hx104_3
   replace hx104_4:=(HB.out.cell (World.block_lt_of_cell? w _ hx104_4)).trans hx104_4
   replace hx104_5:=(HB.out.cell (World.block_lt_of_cell? w _ hx104_5)).trans hx104_5
   have HR104_5:=aq hi104_5
   have HC104_5:=aq hl104_5
   clear hi104_5 hl104_5
   replace p104:=eq_true p104
   replace q104:=eq_true q104
   have p105 : 0 ≤ (x7_1 : Int):=of_decide_eq_true aS
   have q105 : x7_1 < (l0_6.length : Int):=of_decide_eq_true aS
   obtain ⟨ad105,A105_5,c105_5,e105,hx105_0,hx105_1,hx105_2,hx105_3,hx105_4,hx105_5,hl105_5,hi105_5⟩:=at_T37 HR0_6.out x7_1 p105 q105
   obtain rfl : ad104 = ad105:=(by injection e105)
   replace hx105_0:=(HB.out.cell (World.block_lt_of_cell? w _ hx105_0)).trans hx105_0
   replace hx105_1:=(HB.out.cell (World.block_lt_of_cell? w _ hx105_1)).trans hx105_1
   replace hx105_2:=(HB.out.cell (World.block_lt_of_cell? w _ hx105_2)).trans hx105_2
   replace hx105_3:=(HB.out.cell (World.block_lt_of_cell? w _ hx105_3)).trans hx105_3
   replace hx105_4:=(HB.out.cell (World.block_lt_of_cell? w _ hx105_4)).trans hx105_4
   replace hx105_5:=(HB.out.cell (World.block_lt_of_cell? w _ hx105_5)).trans hx105_5
   have HR105_5:=aq hi105_5
   have HC105_5:=aq hl105_5
   clear hi105_5 hl105_5
   replace p105:=eq_true p105
   replace q105:=eq_true q105
   have ea_:=Option.some.inj (hx104_5.symm.trans hx105_5)
   injection ea_ with ea_ en_ ec_
   subst ea_
   subst ec_
   clear en_
   go_wp2
   go_ret
   exact ⟨eR,bH⟩
 rw [if_neg c8] at H
 have c8b0 : (((rd_T37 l0_6 x7_1).f1).toList == a2.toList) = false:=beq_eq_false_iff_ne.mpr c8
 have c8b1 : (((rd_T37 l0_6 x7_1).f1).toList != a2.toList) = true:=bne_iff_ne.mpr c8
 have H':=aq H
 clear H
 have hcz10_0 : wr.cell? ⟨gb103,0,none⟩ = some (.string a0_0):=(blk_cell BK103.out 0).trans rfl
 have hcz10_1 : wr.cell? ⟨gb103,1,none⟩ = some (.string a0_1):=(blk_cell BK103.out 1).trans rfl
 have hcz10_2 : wr.cell? ⟨gb103,2,none⟩ = some (.bool a0_2):=(blk_cell BK103.out 2).trans rfl
 have hcz10_3 : wr.cell? ⟨gb103,3,none⟩ = some (.bool a0_3):=(blk_cell BK103.out 3).trans rfl
 have hcz10_4 : wr.cell? ⟨gb103,4,none⟩ = some (.slice A0_4 l0_4.length c0_4):=(blk_cell BK103.out 4).trans rfl
 have hcz10_5 : wr.cell? ⟨gb103,5,none⟩ = some (.slice A0_5 l0_5.length c0_5):=(blk_cell BK103.out 5).trans rfl
 have hcz10_6 : wr.cell? ⟨gb103,6,none⟩ = some (.slice A0_6 l0_6.length c0_6):=(blk_cell BK103.out 6).trans rfl
 have hfz10_0:=blk_frozen BK103.out 0
 have hfz10_1:=blk_frozen BK103.out 1
 have hfz10_2:=blk_frozen BK103.out 2
 have hfz10_3:=blk_frozen BK103.out 3
 have hfz10_4:=blk_frozen BK103.out 4
 have hfz10_5:=blk_frozen BK103.out 5
 have hfz10_6:=blk_frozen BK103.out 6
 have p104 : 0 ≤ (x7_1 : Int):=of_decide_eq_true aS
 have q104 : x7_1 < (l0_6.length : Int):=of_decide_eq_true aS
 obtain ⟨ad104,A104_5,c104_5,e104,hx104_0,hx104_1,hx104_2,hx104_3,hx104_4,hx104_5,hl104_5,hi104_5⟩:=at_T37 HR0_6.out x7_1 p104 q104
 cases e104
 replace hx104_0:=(HB.out.cell (World.block_lt_of_cell? w _ hx104_0)).trans hx104_0
 replace hx104_1:=(HB.out.cell (World.block_lt_of_cell? w _ hx104_1)).trans hx104_1
 replace hx104_2:=(HB.out.cell (World.block_lt_of_cell? w _ hx104_2)).trans hx104_2
 replace hx104_3:=(HB.out.cell (World.block_lt_of_cell? w _ hx104_3)).trans hx104_3
 replace hx104_4:=(HB.out.cell (World.block_lt_of_cell? w _ hx104_4)).trans hx104_4
 replace hx104_5:=(HB.out.cell (World.block_lt_of_cell? w _ hx104_5)).trans hx104_5
 have HR104_5:=aq hi104_5
 have HC104_5:=aq hl104_5
 clear hi104_5 hl104_5
 replace p104:=eq_true p104
 replace q104:=eq_true q104
 have p105 : 0 ≤ (x7_1 : Int):=of_decide_eq_true aS
 have q105 : x7_1 < (l0_6.length : Int):=of_decide_eq_true aS
 obtain ⟨ad105,A105_5,c105_5,e105,hx105_0,hx105_1,hx105_2,hx105_3,hx105_4,hx105_5,hl105_5,hi105_5⟩:=at_T37 HR0_6.out x7_1 p105 q105
 obtain rfl : ad104 = ad105:=(by injection e105)
 replace hx105_0:=(HB.out.cell (World.block_lt_of_cell? w _ hx105_0)).trans hx105_0
 replace hx105_1:=(HB.out.cell (World.block_lt_of_cell? w _ hx105_1)).trans hx105_1
 replace hx105_2:=(HB.out.cell (World.block_lt_of_cell? w _ hx105_2)).trans hx105_2
 replace hx105_3:=(HB.out.cell (World.block_lt_of_cell? w _ hx105_3)).trans hx105_3
 replace hx105_4:=(HB.out.cell (World.block_lt_of_cell? w _ hx105_4)).trans hx105_4
 replace hx105_5:=(HB.out.cell (World.block_lt_of_cell? w _ hx105_5)).trans hx105_5
 have HR105_5:=aq hi105_5
 have HC105_5:=aq hl105_5
 clear hi105_5 hl105_5
 replace p105:=eq_true p105
 replace q105:=eq_true q105
 have ea_:=Option.some.inj (hx104_5.symm.trans hx105_5)
 injection ea_ with ea_ en_ ec_
 subst ea_
 subst ec_
 clear en_
 go_wp2
 go_roundg k1
 case measure => have:=HK1.out;omega
 case rel => exact ⟨(wrap64 (x7_1 + 1)),eS,H',⟨by have:=HK1.out;omega⟩,⟨KU BK103.out⟩,⟨bH⟩⟩
def sr08_Field.l0 : Nat → ByteArray → Int → ByteArray → ByteArray → Bool → Bool → List ByteArray → List (S103) → List (S37) → Option (Int)
  | 0,_,_,_,_,_,_,_,_,_ => none
  | k + 1,x1,x5,x107000,x107001,x107002,x107003,x107004,x107005,x107006 => if x5 < (x107005.length : Int) then (if 0 ≤ x5 then (if ((rd_T103 x107005 x5).f0).toList = x1.toList then (some x5) else (sr08_Field.l0 k x1 (wrap64 (x5 + 1)) x107000 x107001 x107002 x107003 x107004 x107005 x107006)) else (none)) else (some (-1))
def sr08_Field.f (k : Nat) (a0_0 : ByteArray) (a0_1 : ByteArray) (a0_2 : Bool) (a0_3 : Bool) (l0_4 : List ByteArray) (l0_5 : List (S103)) (l0_6 : List (S37)) (a1 : ByteArray) : Option (Int) := sr08_Field.l0 k a1 0 a0_0 a0_1 a0_2 a0_3 l0_4 l0_5 l0_6
theorem sr08_Field.calls (k : Nat) (a0_0 : ByteArray) (a0_1 : ByteArray) (a0_2 : Bool) (a0_3 : Bool) (A0_4 : Option Addr) (c0_4 : Nat) (l0_4 : List ByteArray) (A0_5 : Option Addr) (c0_5 : Nat) (l0_5 : List (S103)) (A0_6 : Option Addr) (c0_6 : Nat) (l0_6 : List (S37)) (a1 : ByteArray) (r : Int) (w : World) (hr0_4 : Kd.C Kd.string w A0_4 l0_4.length l0_4) (hc0_4 : l0_4.length ≤ c0_4) (hr0_5 : Kd.C k103 w A0_5 l0_5.length l0_5) (hc0_5 : l0_5.length ≤ c0_5) (hr0_6 : Kd.C k37 w A0_6 l0_6.length l0_6) (hc0_6 : l0_6.length ≤ c0_6) (h : sr08_Field.f k a0_0 a0_1 a0_2 a0_3 l0_4 l0_5 l0_6 a1 = some r) :
    Calls Try.prog 80 #[.agg #[.string a0_0,.string a0_1,.bool a0_2,.bool a0_3,.slice A0_4 l0_4.length c0_4,.slice A0_5 l0_5.length c0_5,.slice A0_6 l0_6.length c0_6],.string a1] w fun e w' => e = .returned (.int .i64 r) ∧ Below w.heap.size w w':=by
 have hu33:=Try.underlying33
 have HR0_4:=aq hr0_4
 have HC0_4:=aq hc0_4
 clear hr0_4 hc0_4
 have HR0_5:=aq hr0_5
 have HC0_5:=aq hc0_5
 clear hr0_5 hc0_5
 have HR0_6:=aq hr0_6
 have HC0_6:=aq hc0_6
 clear hr0_6 hc0_6
 have HB:=aq (Below.refl w.heap.size w)
 have H : (sr08_Field.l0 k a1 0 a0_0 a0_1 a0_2 a0_3 l0_4 l0_5 l0_6) = some r:=h
 clear h
 have H':=aq H
 clear H
 go_enter Try.func80,Try.ntmps80
 go_wp2_with (first|((with_reducible refine gate_dst (N:=2) rfl ?_);refine box_event rfl (N:=2) rfl (cs:=#[.string a0_0,.string a0_1,.bool a0_2,.bool a0_3,.slice A0_4 l0_4.length c0_4,.slice A0_5 l0_5.length c0_5,.slice A0_6 l0_6.length c0_6]) (t:=33) gS ?_;intro gb106 hg w3 hbox hb;have BK106:=aq (hbox);have GE106:=aq ((GN hg : w.heap.size ≤ gb106));replace HB:=aq (below_step bH hb);clear hb hbox hg))
 go_loopg [5] k (fun kq v5 w' => ∃ (x5_1 : Int),v5 = .int .i64 x5_1 ∧ Aside0 (sr08_Field.l0 kq a1 x5_1 a0_0 a0_1 a0_2 a0_3 l0_4 l0_5 l0_6 = some r) ∧ Aside0 (kq ≤ k) ∧ Aside0 (w'.heap[gb106]? = some (.cells #[.string a0_0,.string a0_1,.bool a0_2,.bool a0_3,(.slice A0_4 l0_4.length c0_4),(.slice A0_5 l0_5.length c0_5),(.slice A0_6 l0_6.length c0_6)] 33 (0,0))) ∧ Aside0 (Below w.heap.size w w'))
 case atStart => exact ⟨(0),eS,H',⟨Nat.le_refl _⟩,⟨KU BK106.out⟩,⟨bH⟩⟩
 case round =>
 clear H'
 obtain ⟨x5_1,rfl,HA,HK1,BK106,HB⟩:=hrel
 cases gk with
 | zero => exact absurd HA.out (by simp [sr08_Field.l0])
 | succ k1 =>
 have H:=HA.out
 clear HA
 simp only [sr08_Field.l0] at H
 by_cases c4 : x5_1 < (l0_5.length : Int)
 rotate_left
 · rw [if_neg c4] at H
   have c4b0 : decide (x5_1 < (l0_5.length : Int)) = false:=decide_eq_false c4
   clear c4
   obtain rfl:=Option.some.inj H
   have hcz9_0 : wr.cell? ⟨gb106,0,none⟩ = some (.string a0_0):=(blk_cell BK106.out 0).trans rfl
   have hcz9_1 : wr.cell? ⟨gb106,1,none⟩ = some (.string a0_1):=(blk_cell BK106.out 1).trans rfl
   have hcz9_2 : wr.cell? ⟨gb106,2,none⟩ = some (.bool a0_2):=(blk_cell BK106.out 2).trans rfl
   have hcz9_3 : wr.cell? ⟨gb106,3,none⟩ = some (.bool a0_3):=(blk_cell BK106.out 3).trans rfl
   have hcz9_4 : wr.cell? ⟨gb106,4,none⟩ = some (.slice A0_4 l0_4.length c0_4):=(blk_cell BK106.out 4).trans rfl
   have hcz9_5 : wr.cell? ⟨gb106,5,none⟩ = some (.slice A0_5 l0_5.length c0_5):=(blk_cell BK106.out 5).trans rfl
   have hcz9_6 : wr.cell? ⟨gb106,6,none⟩ = some (.slice A0_6 l0_6.length c0_6):=(blk_cell BK106.out 6).trans rfl
   have hfz9_0:=blk_frozen BK106.out 0
   have hfz9_1:=blk_frozen BK106.out 1
   have hfz9_2:=blk_frozen BK106.out 2
   have hfz9_3:=blk_frozen BK106.out 3
   have hfz9_4:=blk_frozen BK106.out 4
   have hfz9_5:=blk_frozen BK106.out 5
   have hfz9_6:=blk_frozen BK106.out 6
   go_wp2
   go_ret
   exact ⟨eR,bH⟩
 rw [if_pos c4] at H
 have c4b0 : decide (x5_1 < (l0_5.length : Int)) = true:=decide_eq_true c4
 clear c4
 by_cases c5 : 0 ≤ x5_1
 rotate_left
 · rw [if_neg c5] at H
   exact absurd H (by simp)
 rw [if_pos c5] at H
 have c5b0 : decide (0 ≤ x5_1) = true:=decide_eq_true c5
 clear c5
 by_cases c6 : ((rd_T103 l0_5 x5_1).f0).toList = a1.toList
 · rw [if_pos c6] at H
   have c6b0 : (((rd_T103 l0_5 x5_1).f0).toList == a1.toList) = true:=beq_iff_eq.mpr c6
   have c6b1 : (((rd_T103 l0_5 x5_1).f0).toList != a1.toList) = false:=bne_eq_false_iff_eq.mpr c6
   clear c6
   obtain rfl:=Option.some.inj H
   have hcz7_0 : wr.cell? ⟨gb106,0,none⟩ = some (.string a0_0):=(blk_cell BK106.out 0).trans rfl
   have hcz7_1 : wr.cell? ⟨gb106,1,none⟩ = some (.string a0_1):=(blk_cell BK106.out 1).trans rfl
   have hcz7_2 : wr.cell? ⟨gb106,2,none⟩ = some (.bool a0_2):=(blk_cell BK106.out 2).trans rfl
   have hcz7_3 : wr.cell? ⟨gb106,3,none⟩ = some (.bool a0_3):=(blk_cell BK106.out 3).trans rfl
   have hcz7_4 : wr.cell? ⟨gb106,4,none⟩ = some (.slice A0_4 l0_4.length c0_4):=(blk_cell BK106.out 4).trans rfl
   have hcz7_5 : wr.cell? ⟨gb106,5,none⟩ = some (.slice A0_5 l0_5.length c0_5):=(blk_cell BK106.out 5).trans rfl
   have hcz7_6 : wr.cell? ⟨gb106,6,none⟩ = some (.slice A0_6 l0_6.length c0_6):=(blk_cell BK106.out 6).trans rfl
   have hfz7_0:=blk_frozen BK106.out 0
   have hfz7_1:=blk_frozen BK106.out 1
   have hfz7_2:=blk_frozen BK106.out 2
   have hfz7_3:=blk_frozen BK106.out 3
   have hfz7_4:=blk_frozen BK106.out 4
   have hfz7_5:=blk_frozen BK106.out 5
   have hfz7_6:=blk_frozen BK106.out 6
   have p107 : 0 ≤ (x5_1 : Int):=of_decide_eq_true aS
   have q107 : x5_1 < (l0_5.length : Int):=of_decide_eq_true aS
   obtain ⟨ad107,e107,hx107_0,hx107_1,hx107_2,hx107_3⟩:=at_T103 HR0_5.out x5_1 p107 q107
   cases e107
   replace hx107_0:=(HB.out.cell (World.block_lt_of_cell? w _ hx107_0)).trans hx107_0
   replace hx107_1:=(HB.out.cell (World.block_lt_of_cell? w _ hx107_1)).trans hx107_1
   replace hx107_2:=(HB.out.cell (World.block_lt_of_cell? w _ hx107_2)).trans hx107_2
   replace hx107_3:=(HB.out.cell (World.block_lt_of_cell? w _ hx107_3)).trans hx107_3
   replace p107:=eq_true p107
   replace q107:=eq_true q107
   go_wp2
   go_ret
   exact ⟨eR,bH⟩
 rw [if_neg c6] at H
 have c6b0 : (((rd_T103 l0_5 x5_1).f0).toList == a1.toList) = false:=beq_eq_false_iff_ne.mpr c6
 have c6b1 : (((rd_T103 l0_5 x5_1).f0).toList != a1.toList) = true:=bne_iff_ne.mpr c6
 have H':=aq H
 clear H
 have hcz8_0 : wr.cell? ⟨gb106,0,none⟩ = some (.string a0_0):=(blk_cell BK106.out 0).trans rfl
 have hcz8_1 : wr.cell? ⟨gb106,1,none⟩ = some (.string a0_1):=(blk_cell BK106.out 1).trans rfl
 have hcz8_2 : wr.cell? ⟨gb106,2,none⟩ = some (.bool a0_2):=(blk_cell BK106.out 2).trans rfl
 have hcz8_3 : wr.cell? ⟨gb106,3,none⟩ = some (.bool a0_3):=(blk_cell BK106.out 3).trans rfl
 have hcz8_4 : wr.cell? ⟨gb106,4,none⟩ = some (.slice A0_4 l0_4.length c0_4):=(blk_cell BK106.out 4).trans rfl
 have hcz8_5 : wr.cell? ⟨gb106,5,none⟩ = some (.slice A0_5 l0_5.length c0_5):=(blk_cell BK106.out 5).trans rfl
 have hcz8_6 : wr.cell? ⟨gb106,6,none⟩ = some (.slice A0_6 l0_6.length c0_6):=(blk_cell BK106.out 6).trans rfl
 have hfz8_0:=blk_frozen BK106.out 0
 have hfz8_1:=blk_frozen BK106.out 1
 have hfz8_2:=blk_frozen BK106.out 2
 have hfz8_3:=blk_frozen BK106.out 3
 have hfz8_4:=blk_frozen BK106.out 4
 have hfz8_5:=blk_frozen BK106.out 5
 have hfz8_6:=blk_frozen BK106.out 6
 have p107 : 0 ≤ (x5_1 : Int):=of_decide_eq_true aS
 have q107 : x5_1 < (l0_5.length : Int):=of_decide_eq_true aS
 obtain ⟨ad107,e107,hx107_0,hx107_1,hx107_2,hx107_3⟩:=at_T103 HR0_5.out x5_1 p107 q107
 cases e107
 replace hx107_0:=(HB.out.cell (World.block_lt_of_cell? w _ hx107_0)).trans hx107_0
 replace hx107_1:=(HB.out.cell (World.block_lt_of_cell? w _ hx107_1)).trans hx107_1
 replace hx107_2:=(HB.out.cell (World.block_lt_of_cell? w _ hx107_2)).trans hx107_2
 replace hx107_3:=(HB.out.cell (World.block_lt_of_cell? w _ hx107_3)).trans hx107_3
 replace p107:=eq_true p107
 replace q107:=eq_true q107
 go_wp2
 go_roundg k1
 case measure => have:=HK1.out;omega
 case rel => exact ⟨(wrap64 (x5_1 + 1)),eS,H',⟨by have:=HK1.out;omega⟩,⟨KU BK106.out⟩,⟨bH⟩⟩
def sr11_in.l0 : Nat → List ByteArray → ByteArray → Int → Option (Bool)
  | 0,_,_,_ => none
  | k + 1,x0,x1,x5 => if x5 < (x0.length : Int) then (if 0 ≤ x5 then (if (rdOf ByteArray.empty x0 x5).toList = x1.toList then (some true) else (sr11_in.l0 k x0 x1 (wrap64 (x5 + 1)))) else (none)) else (some false)
def sr11_in.f (k : Nat) (l0 : List ByteArray) (a1 : ByteArray) : Option (Bool) := sr11_in.l0 k l0 a1 0
theorem sr11_in.calls (k : Nat) (A0 : Option Addr) (c0 : Nat) (l0 : List ByteArray) (a1 : ByteArray) (r : Bool) (w : World) (hr0 : Kd.C Kd.string w A0 l0.length l0) (hc0 : l0.length ≤ c0) (h : sr11_in.f k l0 a1 = some r) :
    Calls Try.prog 94 #[.slice A0 l0.length c0,.string a1] w fun e w' => e = .returned (.bool r) ∧ Drawn0 w w':=by
 have HR0:=aq hr0
 have HC0:=aq hc0
 clear hr0 hc0
 have H : (sr11_in.l0 k l0 a1 0) = some r:=h
 clear h
 have H':=aq H
 clear H
 go_enter Try.func94,Try.ntmps94
 go_wp2
 go_loopg [5] k (fun kq v5 w' => ∃ (x5_1 : Int),v5 = .int .i64 x5_1 ∧ Aside0 (sr11_in.l0 kq l0 a1 x5_1 = some r) ∧ Aside0 (kq ≤ k) ∧ Drawn0 w w')
 case atStart => exact ⟨(0),eS,H',⟨Nat.le_refl _⟩,dR⟩
 case round =>
 clear H'
 obtain ⟨x5_1,rfl,HA,HK1,⟨m1,rfl⟩⟩:=hrel
 cases gk with
 | zero => exact absurd HA.out (by simp [sr11_in.l0])
 | succ k1 =>
 have H:=HA.out
 clear HA
 simp only [sr11_in.l0] at H
 by_cases c3 : x5_1 < (l0.length : Int)
 rotate_left
 · rw [if_neg c3] at H
   have c3b0 : decide (x5_1 < (l0.length : Int)) = false:=decide_eq_false c3
   clear c3
   obtain rfl:=Option.some.inj H
   go_wp2
   go_ret
   exact ⟨eS,dR⟩
 rw [if_pos c3] at H
 have c3b0 : decide (x5_1 < (l0.length : Int)) = true:=decide_eq_true c3
 clear c3
 by_cases c4 : 0 ≤ x5_1
 rotate_left
 · rw [if_neg c4] at H
   exact absurd H (by simp)
 rw [if_pos c4] at H
 have c4b0 : decide (0 ≤ x5_1) = true:=decide_eq_true c4
 clear c4
 by_cases c5 : (rdOf ByteArray.empty l0 x5_1).toList = a1.toList
 · rw [if_pos c5] at H
   have c5b0 : ((rdOf ByteArray.empty l0 x5_1).toList == a1.toList) = true:=beq_iff_eq.mpr c5
   have c5b1 : ((rdOf ByteArray.empty l0 x5_1).toList != a1.toList) = false:=bne_eq_false_iff_eq.mpr c5
   clear c5
   obtain rfl:=Option.some.inj H
   have p108 : 0 ≤ (x5_1 : Int):=of_decide_eq_true aS
   have q108 : x5_1 < (l0.length : Int):=of_decide_eq_true aS
   obtain ⟨ad108,e108,hx108_0⟩:=Kd.at_string HR0.out x5_1 p108 q108
   cases e108
   replace p108:=eq_true p108
   replace q108:=eq_true q108
   go_wp2
   go_ret
   exact ⟨eS,dR⟩
 rw [if_neg c5] at H
 have c5b0 : ((rdOf ByteArray.empty l0 x5_1).toList == a1.toList) = false:=beq_eq_false_iff_ne.mpr c5
 have c5b1 : ((rdOf ByteArray.empty l0 x5_1).toList != a1.toList) = true:=bne_iff_ne.mpr c5
 have H':=aq H
 clear H
 have p108 : 0 ≤ (x5_1 : Int):=of_decide_eq_true aS
 have q108 : x5_1 < (l0.length : Int):=of_decide_eq_true aS
 obtain ⟨ad108,e108,hx108_0⟩:=Kd.at_string HR0.out x5_1 p108 q108
 cases e108
 replace p108:=eq_true p108
 replace q108:=eq_true q108
 go_wp2
 go_roundg k1
 case measure => have:=HK1.out;omega
 case rel => exact ⟨(wrap64 (x5_1 + 1)),eS,H',⟨by have:=HK1.out;omega⟩,dR⟩
end Go.Proofs.Ytfplcohjnlbfjaa.Q52
end
