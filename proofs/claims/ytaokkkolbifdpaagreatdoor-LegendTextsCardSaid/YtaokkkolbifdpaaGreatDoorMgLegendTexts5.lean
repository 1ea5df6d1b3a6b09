import Derived.Test.YtaokkkolbifdpaaGreatDoorMgLegendTexts1
import Derived.Test.YtaokkkolbifdpaaGreatDoorMgLegendTexts4
import Derived.Test.YtaokkkolbifdpaaGreatDoorMgLegendTexts2
import Derived.Test.YtaokkkolbifdpaaGreatDoorProg
import Derived.Below
import Derived.Deep.Draws
import Derived.Deep.AppendLies
import Derived.Maps.AppendAt
import Derived.OwnWalk
import Derived.Laws.BytesArg
import Derived.Laws.MakeOwn
import Derived.Laws.OwnMore
import Derived.Deep.OwnRows
import Derived.Tactics
import Derived.Lib.ConvBytes
import Derived.Laws.Slices
import Derived.WalkKit
import Derived.KernelRfl
import Derived.RowKit3
import Derived.Deep.LoopGhost
import Derived.Deep.QuietTactic
import Derived.BigQuiet
import Derived.WideLaws
import Derived.Deep.DeepCutAuto
import Derived.Deep.CutBlock
import Derived.Deep.RegionHeld3
import Derived.Laws.Rows
import Derived.Lib.AppendStr
import Derived.ArgAppend
import Derived.Laws.IdiomCopy
import Derived.OrdersHeld
import Derived.Laws.BitsLemmas
import Derived.RowKit
import Derived.Test.YtaokkkolbifdpaaGreatDoorMgLegendTexts0
set_option linter.unusedVariables false
set_option linter.unusedSimpArgs false
set_option maxHeartbeats 64000000
set_option maxRecDepth 100000
section
namespace Go.Proofs.YtaokkkolbifdpaaGreatDoor.Hand
open Go.RowKit Go.Proofs.YtaokkkolbifdpaaGreatDoorW
open PrintWords PrintLast PrintMore
theorem renR_loop (a0 : Int) (a1 : ByteArray) (l : List (S23)) (hl : l.length ≤ 4611686018427387903) : ∀ (d i k : Nat), l.length - i = d → i ≤ l.length → 2 * d + 2 ≤ k → Q8.sr06_RenamedType.l0 k l (i : Int) a0 a1 = some ((renT ((l.drop i).map pairT) (a0, bl a1)).1, lb (renT ((l.drop i).map pairT) (a0, bl a1)).2) := by
 intro d
 induction d with
 | zero =>
  intro i k hd hi hk
  obtain ⟨k,rfl⟩ : ∃ j,k = j + 2:=⟨k - 2,by omega⟩
  rw [Q8.sr06_RenamedType.l0,if_neg (by omega),List.drop_of_length_le (by omega),Q8.sr06_RenamedType.j1,if_neg (by decide)]
  unfold renT newOf
  simp only [List.map_nil,List.find?_nil]
  split <;> simp
 | succ d ih =>
  intro i k hd hi hk
  obtain ⟨k,rfl⟩ : ∃ j,k = j + 2:=⟨k - 2,by omega⟩
  have h1 : i < l.length:=by omega
  have hw : wrap64 ((i : Int) + 1) = ((i + 1 : Nat) : Int):=by rw [wrap_in (by omega) (by omega)];omega
  rw [Q8.sr06_RenamedType.l0,if_pos (by omega)]
  by_cases h35 : a0 = 3 ∨ a0 = 5
  ·
   have e : (if a0 = 3 then Q8.sr06_RenamedType.j1 (k + 1) l (i : Int) true a0 a1 else Q8.sr06_RenamedType.j1 (k + 1) l (i : Int) (a0 == 5) a0 a1) = Q8.sr06_RenamedType.j1 (k + 1) l (i : Int) true a0 a1:=by
    rcases h35 with h|h
    ·
     rw [if_pos h]
    ·
     subst h;rfl
   have ih:=ih (i + 1) k (by omega) (by omega) (by omega)
   rw [e,Q8.sr06_RenamedType.j1,if_pos rfl,if_pos (by omega),if_pos (by omega),rdP_get l i h1,hw,ih,List.drop_eq_getElem_cons h1]
   unfold renT
   rw [if_pos h35,if_pos h35]
   simp only
   have hn:=new_cons l[i] (l.drop (i + 1)) (a0,bl a1)
   simp only at hn
   rw [hn,old_eq]
   have hq : (a1.toList = l[i].f0.toList) ↔ ((pairT l[i]).1 = bl a1):=by
    rw [ByteArray.toList_eq,ByteArray.toList_eq]
    exact ⟨fun h => h.symm,fun h => h.symm⟩
   by_cases he : (pairT l[i]).1 = bl a1
   ·
    rw [if_pos (hq.2 he),if_pos (decide_eq_true he),lb_bl]
   ·
    rw [if_neg (fun h => he (hq.1 h)),if_neg (by simp [he])]
  ·
   have h3 : a0 ≠ 3:=fun h => h35 (.inl h)
   have h5 : a0 ≠ 5:=fun h => h35 (.inr h)
   rw [if_neg h3,beq_eq_false_iff_ne.2 h5,Q8.sr06_RenamedType.j1,if_neg (by decide)]
   unfold renT
   rw [if_neg h35]
   simp
theorem renR_eq (a0 : Int) (a1 : ByteArray) (l : List (S23)) (hl : l.length ≤ 4611686018427387903) (k : Nat) (hk : 2 * l.length + 2 ≤ k) : Q8.sr06_RenamedType.f k a0 a1 l = some ((renT (l.map pairT) (a0, bl a1)).1, lb (renT (l.map pairT) (a0, bl a1)).2) :=
 renR_loop a0 a1 l hl _ 0 k rfl (by omega) (by omega)
end Go.Proofs.YtaokkkolbifdpaaGreatDoor.Hand
end

section
namespace Go.Proofs.YtaokkkolbifdpaaGreatDoor.Q8
open Go.RowKit Go.Proofs.YtaokkkolbifdpaaGreatDoorW
open PrintWords PrintLast PrintMore Go.Proofs.YtaokkkolbifdpaaGreatDoor.Hand
attribute [local go_sem] max2_int min2_int max_two min_two max_three min_three max_four min_four
mutual
def sr06_Split.j0 : Nat → ByteArray → Bool → Option ((List (S102)) × Int × ByteArray × Int)
  | 0,_,_ => none
  | k + 1,x0,x23 => if x23 = true then (some (([] : List (S102)),0,(⟨#[]⟩ : ByteArray),1)) else (sr06_Split.l0 k x0 ([] : List (S102)) 1)
def sr06_Split.l0 : Nat → ByteArray → List (S102) → Int → Option ((List (S102)) × Int × ByteArray × Int)
  | 0,_,_,_ => none
  | k + 1,x0,x5,x6 => if x6 < (x0.size : Int) then (if 0 ≤ x6 then (sr06_Split.j2 k x0 x5 x6 ((bt x0 x6) != 41)) else (none)) else (sr06_Split.j2 k x0 x5 x6 false)
def sr06_Split.j2 : Nat → ByteArray → List (S102) → Int → Bool → Option ((List (S102)) × Int × ByteArray × Int)
  | 0,_,_,_,_ => none
  | k + 1,x0,x5,x6,x34 => if x34 = true then ((sr06_next.f k x0 x6).bind fun bt111 => (if bt111.2.2.2 = true then (if bt111.1 = 1 then (some (([] : List (S102)),0,(⟨#[]⟩ : ByteArray),1)) else (if x5.length < 5864062014805 then (sr06_Split.l0 k x0 (x5 ++ [(⟨bt111.1,bt111.2.1⟩ : S102)]) bt111.2.2.1) else (none))) else (some (([] : List (S102)),0,(⟨#[]⟩ : ByteArray),1)))) else (if x6 ≥ (x0.size : Int) then (some (([] : List (S102)),0,(⟨#[]⟩ : ByteArray),1)) else (if 0 ≤ (wrap64 (x6 + 1)) then (if (wrap64 (x6 + 1)) ≤ (x0.size : Int) then ((sr06_Parse.f k (x0.extract ((wrap64 (x6 + 1)) : Int).toNat x0.size)).bind fun bt119 => (if bt119.2.2 = 0 then (if (x5.length : Int) > 8 then (some (([] : List (S102)),0,(⟨#[]⟩ : ByteArray),3)) else (some (x5,bt119.1,bt119.2.1,0))) else (some (([] : List (S102)),0,(⟨#[]⟩ : ByteArray),bt119.2.2)))) else (none)) else (none)))
end
def sr06_Split.f (k : Nat) (a0 : ByteArray) : Option ((List (S102)) × Int × ByteArray × Int) := if (a0.size : Int) > 64 then (some (([] : List (S102)), 0, (⟨#[]⟩ : ByteArray), 3)) else (if (a0.size : Int) = 0 then (sr06_Split.j0 k a0 true) else (if 0 < (a0.size : Int) then (sr06_Split.j0 k a0 ((bt a0 0) != 40)) else (none)))
theorem sr06_Split.calls (k : Nat) (a0 : ByteArray) (r1 : List (S102)) (r2 : Int) (r3 : ByteArray) (r4 : Int) (w : World) (h : sr06_Split.f k a0 = some (r1, r2, r3, r4)) :
    Calls Tryz.prog 83 #[.string a0] w fun e w' => ∃ v0_ : Value,e = .returned (.tuple #[v0_,.agg #[.int .i64 r2,.string r3],.int .i64 r4]) ∧ Kd.R k102 102 w' w.heap.size (fun _ => True) v0_ r1 ∧ Below w.heap.size w w':=by
 have hu102:=Tryz.underlying102
 have HB:=aq (Below.refl w.heap.size w)
 have H : (if (a0.size : Int) > 64 then (some (([] : List (S102)),0,(⟨#[]⟩ : ByteArray),3)) else (if (a0.size : Int) = 0 then (sr06_Split.j0 k a0 true) else (if 0 < (a0.size : Int) then (sr06_Split.j0 k a0 ((bt a0 0) != 40)) else (none)))) = some (r1,r2,r3,r4):=h
 clear h
 by_cases c2 : (a0.size : Int) > 64
 · rw [if_pos c2] at H
   have c2b0 : decide (64 < (a0.size : Int)) = true:=decide_eq_true c2
   have c2b1 : decide (64 < a0.size) = true:=decide_eq_true (by omega)
   clear c2
   simp only [Option.some.injEq,Prod.mk.injEq] at H
   obtain ⟨rfl,rfl,rfl,rfl⟩:=H
   go_enter Tryz.func83,Tryz.ntmps83
   go_wp2_with (first|((with_reducible refine gate_dst (N:=3) rfl ?_);refine box_event rfl (N:=3) rfl (cs:=#[.int .i64 0,.string (⟨#[]⟩ : ByteArray)]) (t:=102) gS ?_;intro gb110 hg w3 hbox hb;have BK110:=aq (hbox);have GE110:=aq ((GN hg : w.heap.size ≤ gb110));replace HB:=aq (below_step bH hb);clear hb hbox hg;have hcz4_0 : w3.cell? ⟨gb110,0,none⟩ = some (.int .i64 0):=(blk_cell BK110.out 0).trans rfl;have hcz4_1 : w3.cell? ⟨gb110,1,none⟩ = some (.string (⟨#[]⟩ : ByteArray)):=(blk_cell BK110.out 1).trans rfl;have hfz4_0:=blk_frozen BK110.out 0;have hfz4_1:=blk_frozen BK110.out 1))
   refine bodyPost_ret (results_list (rs:=[.tmp 2,.cell 3 102,.tmp 4]) rfl (by simp) (.tmp (.cell gb110 102 #[.int .i64 0,.string (⟨#[]⟩ : ByteArray)] (0,0) _ rfl (by refine KU ?_;refine blk_put (cs:=#[.int .i64 0,.string (⟨#[]⟩ : ByteArray)]) ?_ 1 _ rfl;refine KU ?_;refine blk_put (cs:=#[.int .i64 0,.string (⟨#[]⟩ : ByteArray)]) ?_ 0 _ rfl;refine KU ?_;exact BK110.out) Tryz.underlying102 rfl (by kernel_rfl) (.tmp .nil)))) rfl ?_
   exact ⟨_,eR,by first|exact Kd.R_nil _ _ _ _ _|exact Kd.N_nil _ _ _ _ _|exact Kd.V_nil _ _ _ _ _|exact Kd.Q_nil _ _ _ _ _|exact Kd.S_nil _ _ _ _ _,bH⟩
 rw [if_neg c2] at H
 have c2b0 : decide (64 < (a0.size : Int)) = false:=decide_eq_false c2
 have c2b1 : decide (64 < a0.size) = false:=decide_eq_false (by omega)
 clear c2
 have HC5:=aq H
 clear H
 go_enter Tryz.func83,Tryz.ntmps83
 go_upto_region 3 with (first|((with_reducible refine gate_dst (N:=3) rfl ?_);refine box_event rfl (N:=3) rfl (cs:=#[.int .i64 0,.string (⟨#[]⟩ : ByteArray)]) (t:=102) gS ?_;intro gb110 hg w6 hbox hb;have BK110:=aq (hbox);have GE110:=aq ((GN hg : w.heap.size ≤ gb110));replace HB:=aq (below_step bH hb);clear hb hbox hg))
 (try simp only [Act.put,List.setIfInBounds_toArray,List.set_cons_zero,List.set_cons_succ])
 go_cut [23] (fun v23 wc => ∃ (kq : Nat) (x23_4 : Bool),v23 = .bool x23_4 ∧ Aside0 (sr06_Split.j0 kq a0 x23_4 = some (r1,r2,r3,r4)) ∧ Aside0 (kq ≤ k) ∧ Aside0 (wc.heap[gb110]? = some (.cells #[.int .i64 0,.string (⟨#[]⟩ : ByteArray)] 102 (0,0))) ∧ Aside0 (Below w.heap.size w wc))
 case first =>
  have H:=HC5.out
  clear HC5
  by_cases c7 : (a0.size : Int) = 0
  · rw [if_pos c7] at H
    have c7b0 : ((a0.size : Int) == 0) = true:=beq_iff_eq.mpr c7
    have c7b1 : ((a0.size : Int) != 0) = false:=bne_eq_false_iff_eq.mpr c7
    clear c7
    (first|rw [c7b0]|rw [c7b1]|(simp only [i64_w,i32_w];rw [c7b0])|skip)
    have H':=aq H
    clear H
    go_wp2
    go_meet
    case rel => exact ⟨_,(true),eS,H',⟨by first|omega|exact Nat.le_refl _⟩,⟨KU BK110.out⟩,⟨bH⟩⟩
  rw [if_neg c7] at H
  have c7b0 : ((a0.size : Int) == 0) = false:=beq_eq_false_iff_ne.mpr c7
  have c7b1 : ((a0.size : Int) != 0) = true:=bne_iff_ne.mpr c7
  (first|rw [c7b0]|rw [c7b1]|(simp only [i64_w,i32_w];rw [c7b0])|skip)
  by_cases c8 : 0 < (a0.size : Int)
  rotate_left
  · rw [if_neg c8] at H
    exact absurd H (by simp)
  rw [if_pos c8] at H
  have c8b0 : decide (0 < (a0.size : Int)) = true:=decide_eq_true c8
  have c8b1 : decide (0 < a0.size) = true:=decide_eq_true (by omega)
  clear c8
  have H':=aq H
  clear H
  have p9 : 0 ≤ (0 : Int):=(by omega)
  have q9 : 0 < a0.size:=(by have : (0 : Int) < (a0.size : Int):=of_decide_eq_true aS;omega)
  have hx9 : ∀ h : 0 < a0.size,((a0[0]'h).toNat : Int) = bt a0 0:=bt_at a0 0
  clear p9
  have qi9 : (0 < (a0.size : Int)) = True:=eq_true (of_decide_eq_true aS)
  replace q9:=eq_true q9
  go_wp2
  go_meet
  case rel => exact ⟨_,(((bt a0 0) != 40)),eS,H',⟨by first|omega|exact Nat.le_refl _⟩,⟨KU BK110.out⟩,⟨bH⟩⟩
 case rest =>
 clear HC5
 (try clear c2);(try clear c2b0);(try clear c2b1)
 obtain ⟨kq,x23_4,rfl,HA,HJ4,BK110,HB⟩:=hcut
 cases kq with
 | zero => exact absurd HA.out (by simp [sr06_Split.j0])
 | succ kj4 =>
 have H:=HA.out
 clear HA
 simp only [sr06_Split.j0] at H
 by_cases c10 : x23_4 = true
 · subst c10
   have H1 : (some (([] : List (S102)),0,(⟨#[]⟩ : ByteArray),1)) = some (r1,r2,r3,r4):=by rw [if_pos rfl] at H;exact H
   clear H
   have H:=H1
   clear H1
   simp only [Option.some.injEq,Prod.mk.injEq] at H
   obtain ⟨rfl,rfl,rfl,rfl⟩:=H
   have hcz11_0 : wc.cell? ⟨gb110,0,none⟩ = some (.int .i64 0):=(blk_cell BK110.out 0).trans rfl
   have hcz11_1 : wc.cell? ⟨gb110,1,none⟩ = some (.string (⟨#[]⟩ : ByteArray)):=(blk_cell BK110.out 1).trans rfl
   have hfz11_0:=blk_frozen BK110.out 0
   have hfz11_1:=blk_frozen BK110.out 1
   go_wp2
   refine bodyPost_ret (results_list (rs:=[.tmp 2,.cell 3 102,.tmp 4]) rfl (by simp) (.tmp (.cell gb110 102 #[.int .i64 0,.string (⟨#[]⟩ : ByteArray)] (0,0) _ rfl (by refine KU ?_;refine blk_put (cs:=#[.int .i64 0,.string (⟨#[]⟩ : ByteArray)]) ?_ 1 _ rfl;refine KU ?_;refine blk_put (cs:=#[.int .i64 0,.string (⟨#[]⟩ : ByteArray)]) ?_ 0 _ rfl;refine KU ?_;exact BK110.out) Tryz.underlying102 rfl (by kernel_rfl) (.tmp .nil)))) rfl ?_
   exact ⟨_,eR,by first|exact Kd.R_nil _ _ _ _ _|exact Kd.N_nil _ _ _ _ _|exact Kd.V_nil _ _ _ _ _|exact Kd.Q_nil _ _ _ _ _|exact Kd.S_nil _ _ _ _ _,bH⟩
 replace c10:=Bool.eq_false_iff.mpr c10
 subst c10
 have H1 : (sr06_Split.l0 kj4 a0 ([] : List (S102)) 1) = some (r1,r2,r3,r4):=by rw [if_neg (show ¬ (false = true) by decide)] at H;exact H
 clear H
 have H:=H1
 clear H1
 have H':=aq H
 clear H
 go_wp2
 go_loopg [5,6] kj4 (fun kq v5 v6 w' => ∃ (x5_2 : List (S102)) (x6_2 : Int) (x111000_2 : Int) (x111001_2 : ByteArray),v6 = .int .i64 x6_2 ∧ Aside0 (sr06_Split.l0 kq a0 x5_2 x6_2 = some (r1,r2,r3,r4)) ∧ Aside0 (kq ≤ kj4) ∧ Aside0 (Kd.R k102 102 w' w.heap.size (fun k_ => k_ ≠ gb110) v5 x5_2) ∧ Aside0 (w'.heap[gb110]? = some (.cells #[.int .i64 x111000_2,.string x111001_2] 102 (0,0))) ∧ Aside0 (Below w.heap.size w w'))
 case atStart => exact ⟨(([] : List (S102))),(1),(0),((⟨#[]⟩ : ByteArray)),eS,H',⟨Nat.le_refl _⟩,⟨by first|exact Kd.R_nil _ _ _ _ _|exact Kd.N_nil _ _ _ _ _|exact Kd.V_nil _ _ _ _ _|exact Kd.Q_nil _ _ _ _ _|exact Kd.S_nil _ _ _ _ _⟩,⟨KU BK110.out⟩,⟨bH⟩⟩
 case round =>
 clear H'
 (try clear c2);(try clear c2b0);(try clear c2b1);(try clear c10)
 obtain ⟨x5_2,x6_2,x111000_2,x111001_2,rfl,HA,HK2,HO_5,BK110,HB⟩:=hrel
 cases gk with
 | zero => exact absurd HA.out (by simp [sr06_Split.l0])
 | succ k2 =>
 have H:=HA.out
 clear HA
 simp only [sr06_Split.l0] at H
 have HC12:=aq H
 clear H
 go_upto_region 7 with (fail)
 go_cut [34] (fun v34 wc => ∃ (kq : Nat) (x34_11 : Bool),v34 = .bool x34_11 ∧ Aside0 (sr06_Split.j2 kq a0 x5_2 x6_2 x34_11 = some (r1,r2,r3,r4)) ∧ Aside0 (kq ≤ k2) ∧ Aside0 (Kd.R k102 102 wc w.heap.size (fun k_ => k_ ≠ gb110) u5 x5_2) ∧ Aside0 (wc.heap[gb110]? = some (.cells #[.int .i64 x111000_2,.string x111001_2] 102 (0,0))) ∧ Aside0 (Below w.heap.size w wc))
 case first =>
  have H:=HC12.out
  clear HC12
  by_cases c13 : x6_2 < (a0.size : Int)
  rotate_left
  · rw [if_neg c13] at H
    have c13b0 : decide (x6_2 < (a0.size : Int)) = false:=decide_eq_false c13
    clear c13
    (first|rw [c13b0]|rw [c13b1]|(simp only [i64_w,i32_w];rw [c13b0])|skip)
    have H':=aq H
    clear H
    go_wp2
    go_meet
    case rel => exact ⟨_,(false),eS,H',⟨by have:=HJ4.out;have:=HK2.out;first|omega|exact Nat.le_refl _⟩,⟨by (with_reducible repeat (first|apply Kd.R_alloc|apply Kd.R_drewN|apply Kd.R_drew));exact HO_5.out⟩,⟨KU BK110.out⟩,⟨bH⟩⟩
  rw [if_pos c13] at H
  have c13b0 : decide (x6_2 < (a0.size : Int)) = true:=decide_eq_true c13
  clear c13
  (first|rw [c13b0]|rw [c13b1]|(simp only [i64_w,i32_w];rw [c13b0])|skip)
  by_cases c14 : 0 ≤ x6_2
  rotate_left
  · rw [if_neg c14] at H
    exact absurd H (by simp)
  rw [if_pos c14] at H
  have c14b0 : decide (0 ≤ x6_2) = true:=decide_eq_true c14
  clear c14
  have H':=aq H
  clear H
  have p15 : 0 ≤ (x6_2 : Int):=of_decide_eq_true aS
  have q15 : x6_2 < (a0.size : Int):=of_decide_eq_true aS
  have hx15:=bt_at a0 x6_2
  replace p15:=eq_true p15
  replace q15:=eq_true q15
  go_wp2
  go_meet
  case rel => exact ⟨_,(((bt a0 x6_2) != 41)),eS,H',⟨by have:=HJ4.out;have:=HK2.out;first|omega|exact Nat.le_refl _⟩,⟨by (with_reducible repeat (first|apply Kd.R_alloc|apply Kd.R_drewN|apply Kd.R_drew));exact HO_5.out⟩,⟨KU BK110.out⟩,⟨bH⟩⟩
 case rest =>
 clear HC12
 (try clear c2);(try clear c2b0);(try clear c2b1);(try clear c10)
 obtain ⟨kq,x34_11,rfl,HA,HJ11,HO_5,BK110,HB⟩:=hcut
 cases kq with
 | zero => exact absurd HA.out (by simp [sr06_Split.j2])
 | succ kj11 =>
 have H:=HA.out
 clear HA
 simp only [sr06_Split.j2] at H
 by_cases c16 : x34_11 = true
 · subst c16
   have H1 : ((sr06_next.f kj11 a0 x6_2).bind fun bt111 => (if bt111.2.2.2 = true then (if bt111.1 = 1 then (some (([] : List (S102)),0,(⟨#[]⟩ : ByteArray),1)) else (if x5_2.length < 5864062014805 then (sr06_Split.l0 kj11 a0 (x5_2 ++ [(⟨bt111.1,bt111.2.1⟩ : S102)]) bt111.2.2.1) else (none))) else (some (([] : List (S102)),0,(⟨#[]⟩ : ByteArray),1)))) = some (r1,r2,r3,r4):=by rw [if_pos rfl] at H;exact H
   clear H
   have H:=H1
   clear H1
   replace H:=Option.bind_eq_some_iff.mp H
   obtain ⟨⟨t111,t112,t113,t114⟩,A170,H⟩:=H
   replace H : (if t114 = true then (if t111 = 1 then (some (([] : List (S102)),0,(⟨#[]⟩ : ByteArray),1)) else (if x5_2.length < 5864062014805 then (sr06_Split.l0 kj11 a0 (x5_2 ++ [(⟨t111,t112⟩ : S102)]) t113) else (none))) else (some (([] : List (S102)),0,(⟨#[]⟩ : ByteArray),1))) = some (r1,r2,r3,r4):=H
   have A17:=aq A170
   clear A170
   by_cases c18 : t114 = true
   rotate_left
   · replace c18:=Bool.eq_false_iff.mpr c18
     subst c18
     have H1 : (some (([] : List (S102)),0,(⟨#[]⟩ : ByteArray),1)) = some (r1,r2,r3,r4):=by rw [if_neg (show ¬ (false = true) by decide)] at H;exact H
     clear H
     have H:=H1
     clear H1
     simp only [Option.some.injEq,Prod.mk.injEq] at H
     obtain ⟨rfl,rfl,rfl,rfl⟩:=H
     go_wp2_with (first|((with_reducible refine gate_callee (f:=107) rfl ?_);refine goesL_ (some 38) rfl rfl Tryz.func107 (by kernel_rfl) rfl #[.string a0,.int .i64 x6_2] rfl eA ?_;(with_reducible refine (sr06_next.calls kj11 a0 x6_2 t111 t112 t113 false _ A17.out).mono ?_);rintro e w31 ⟨rfl,hb⟩;refine ⟨_,rfl,?_⟩;replace HO_5:=RN HO_5 hb;replace BK110:=KN BK110 hb;replace HB:=aq (below_step bH hb);(try clear hb);(try clear hb2);(try clear hk);(try clear hi))|((with_reducible refine gate_dst (N:=7) rfl ?_);refine box_event rfl (N:=7) rfl (cs:=#[.int .i64 0,.string (⟨#[]⟩ : ByteArray)]) (t:=102) gS ?_;intro gb115 hg w32 hbox hb;have BK115:=aq (hbox);have GE115:=aq ((GN hg : w.heap.size ≤ gb115));have NB110_115:=aq (NL hg BK110);have NB115_110:=aq (NG hg BK110);replace HO_5:=aq (Kd.R_below (Kd.R_elderB (RU HO_5.out) gb115 (Nat.le_of_eq hg.symm)) hb);replace BK110:=KN BK110 hb;replace HB:=aq (below_step bH hb);clear hb hbox hg;have hnb33:=NB115_110.out;have hnc33:=NB110_115.out;have hcz34_0 : w32.cell? ⟨gb115,0,none⟩ = some (.int .i64 0):=(blk_cell BK115.out 0).trans rfl;have hcz34_1 : w32.cell? ⟨gb115,1,none⟩ = some (.string (⟨#[]⟩ : ByteArray)):=(blk_cell BK115.out 1).trans rfl;have hfz34_0:=blk_frozen BK115.out 0;have hfz34_1:=blk_frozen BK115.out 1;have hcz35_0 : w32.cell? ⟨gb110,0,none⟩ = some (.int .i64 x111000_2):=(blk_cell BK110.out 0).trans rfl;have hcz35_1 : w32.cell? ⟨gb110,1,none⟩ = some (.string x111001_2):=(blk_cell BK110.out 1).trans rfl;have hfz35_0:=blk_frozen BK110.out 0;have hfz35_1:=blk_frozen BK110.out 1))
     refine bodyPost_ret (results_list (rs:=[.tmp 2,.cell 3 102,.tmp 4]) rfl (by simp) (.tmp (.cell gb110 102 #[.int .i64 0,.string (⟨#[]⟩ : ByteArray)] (0,0) _ rfl (by refine KU ?_;refine blk_put (cs:=#[.int .i64 0,.string x111001_2]) ?_ 1 _ rfl;refine KU ?_;refine blk_put (cs:=#[.int .i64 x111000_2,.string x111001_2]) ?_ 0 _ rfl;refine KU ?_;refine blk_far ?_ NB110_115.out _;refine KU ?_;refine blk_far ?_ NB110_115.out _;refine KU ?_;exact BK110.out) Tryz.underlying102 rfl (by kernel_rfl) (.tmp .nil)))) rfl ?_
     exact ⟨_,eR,by first|exact Kd.R_nil _ _ _ _ _|exact Kd.N_nil _ _ _ _ _|exact Kd.V_nil _ _ _ _ _|exact Kd.Q_nil _ _ _ _ _|exact Kd.S_nil _ _ _ _ _,bH⟩
   subst c18
   have H1 : (if t111 = 1 then (some (([] : List (S102)),0,(⟨#[]⟩ : ByteArray),1)) else (if x5_2.length < 5864062014805 then (sr06_Split.l0 kj11 a0 (x5_2 ++ [(⟨t111,t112⟩ : S102)]) t113) else (none))) = some (r1,r2,r3,r4):=by rw [if_pos rfl] at H;exact H
   clear H
   have H:=H1
   clear H1
   by_cases c19 : t111 = 1
   · rw [if_pos c19] at H
     have c19b0 : (t111 == 1) = true:=beq_iff_eq.mpr c19
     have c19b1 : (t111 != 1) = false:=bne_eq_false_iff_eq.mpr c19
     clear c19
     simp only [Option.some.injEq,Prod.mk.injEq] at H
     obtain ⟨rfl,rfl,rfl,rfl⟩:=H
     go_wp2_with (first|((with_reducible refine gate_callee (f:=107) rfl ?_);refine goesL_ (some 38) rfl rfl Tryz.func107 (by kernel_rfl) rfl #[.string a0,.int .i64 x6_2] rfl eA ?_;(with_reducible refine (sr06_next.calls kj11 a0 x6_2 t111 t112 t113 true _ A17.out).mono ?_);rintro e w20 ⟨rfl,hb⟩;refine ⟨_,rfl,?_⟩;replace HO_5:=RN HO_5 hb;replace BK110:=KN BK110 hb;replace HB:=aq (below_step bH hb);(try clear hb);(try clear hb2);(try clear hk);(try clear hi))|((with_reducible refine gate_dst (N:=7) rfl ?_);refine box_event rfl (N:=7) rfl (cs:=#[.int .i64 0,.string (⟨#[]⟩ : ByteArray)]) (t:=102) gS ?_;intro gb115 hg w21 hbox hb;have BK115:=aq (hbox);have GE115:=aq ((GN hg : w.heap.size ≤ gb115));have NB110_115:=aq (NL hg BK110);have NB115_110:=aq (NG hg BK110);replace HO_5:=aq (Kd.R_below (Kd.R_elderB (RU HO_5.out) gb115 (Nat.le_of_eq hg.symm)) hb);replace BK110:=KN BK110 hb;replace HB:=aq (below_step bH hb);clear hb hbox hg;have hnb22:=NB115_110.out;have hnc22:=NB110_115.out;have hcz23_0 : w21.cell? ⟨gb115,0,none⟩ = some (.int .i64 0):=(blk_cell BK115.out 0).trans rfl;have hcz23_1 : w21.cell? ⟨gb115,1,none⟩ = some (.string (⟨#[]⟩ : ByteArray)):=(blk_cell BK115.out 1).trans rfl;have hfz23_0:=blk_frozen BK115.out 0;have hfz23_1:=blk_frozen BK115.out 1;have hcz24_0 : w21.cell? ⟨gb110,0,none⟩ = some (.int .i64 x111000_2):=(blk_cell BK110.out 0).trans rfl;have hcz24_1 : w21.cell? ⟨gb110,1,none⟩ = some (.string x111001_2):=(blk_cell BK110.out 1).trans rfl;have hfz24_0:=blk_frozen BK110.out 0;have hfz24_1:=blk_frozen BK110.out 1))
     refine bodyPost_ret (results_list (rs:=[.tmp 2,.cell 3 102,.tmp 4]) rfl (by simp) (.tmp (.cell gb110 102 #[.int .i64 0,.string (⟨#[]⟩ : ByteArray)] (0,0) _ rfl (by refine KU ?_;refine blk_put (cs:=#[.int .i64 0,.string x111001_2]) ?_ 1 _ rfl;refine KU ?_;refine blk_put (cs:=#[.int .i64 x111000_2,.string x111001_2]) ?_ 0 _ rfl;refine KU ?_;refine blk_far ?_ NB110_115.out _;refine KU ?_;refine blk_far ?_ NB110_115.out _;refine KU ?_;exact BK110.out) Tryz.underlying102 rfl (by kernel_rfl) (.tmp .nil)))) rfl ?_
     exact ⟨_,eR,by first|exact Kd.R_nil _ _ _ _ _|exact Kd.N_nil _ _ _ _ _|exact Kd.V_nil _ _ _ _ _|exact Kd.Q_nil _ _ _ _ _|exact Kd.S_nil _ _ _ _ _,bH⟩
   rw [if_neg c19] at H
   have c19b0 : (t111 == 1) = false:=beq_eq_false_iff_ne.mpr c19
   have c19b1 : (t111 != 1) = true:=bne_iff_ne.mpr c19
   by_cases c25 : x5_2.length < 5864062014805
   rotate_left
   · rw [if_neg c25] at H
     exact absurd H (by simp)
   rw [if_pos c25] at H
   have LMc25:=aq c25
   clear c25
   obtain ⟨y116,hy116⟩ : ∃ y_ : List (S102),y_ = (x5_2 ++ [(⟨t111,t112⟩ : S102)]):=⟨_,rfl⟩
   replace H : (sr06_Split.l0 kj11 a0 y116 t113) = some (r1,r2,r3,r4):=by first|(rw [hy116];with_reducible exact H)|(have H2_:=(Option.bind_some _ _).symm.trans H;rw [hy116];with_reducible exact H2_)|(have H2_:=(Option.bind_some _ _).symm.trans H;with_reducible exact H2_)|with_reducible exact H|(rw [hy116];exact H)|exact H
   have Ny116:=aq hy116
   clear hy116
   have H':=aq H
   clear H
   go_wp2_with (first|((with_reducible refine gate_callee (f:=107) rfl ?_);refine goesL_ (some 38) rfl rfl Tryz.func107 (by kernel_rfl) rfl #[.string a0,.int .i64 x6_2] rfl eA ?_;(with_reducible refine (sr06_next.calls kj11 a0 x6_2 t111 t112 t113 true _ A17.out).mono ?_);rintro e w26 ⟨rfl,hb⟩;refine ⟨_,rfl,?_⟩;replace HO_5:=RN HO_5 hb;replace BK110:=KN BK110 hb;replace HB:=aq (below_step bH hb);(try clear hb);(try clear hb2);(try clear hk);(try clear hi))|((with_reducible refine gate_dst (N:=7) rfl ?_);refine box_event rfl (N:=7) rfl (cs:=#[.int .i64 0,.string (⟨#[]⟩ : ByteArray)]) (t:=102) gS ?_;intro gb115 hg w27 hbox hb;have BK115:=aq (hbox);have GE115:=aq ((GN hg : w.heap.size ≤ gb115));have NB110_115:=aq (NL hg BK110);have NB115_110:=aq (NG hg BK110);replace HO_5:=aq (Kd.R_below (Kd.R_elderB (RU HO_5.out) gb115 (Nat.le_of_eq hg.symm)) hb);replace BK110:=KN BK110 hb;replace HB:=aq (below_step bH hb);clear hb hbox hg;have hnb28:=NB115_110.out;have hnc28:=NB110_115.out;have hcz29_0 : w27.cell? ⟨gb115,0,none⟩ = some (.int .i64 0):=(blk_cell BK115.out 0).trans rfl;have hcz29_1 : w27.cell? ⟨gb115,1,none⟩ = some (.string (⟨#[]⟩ : ByteArray)):=(blk_cell BK115.out 1).trans rfl;have hfz29_0:=blk_frozen BK115.out 0;have hfz29_1:=blk_frozen BK115.out 1)|((with_reducible refine gate_builtin (b:=.append) (xs:=#[.tmp 50,.tmp 52]) rfl ?_);at_builtin;refine Kd.R_append k102 (w0:=w) w.heap.size rfl (.tmp 50) (.tmp 52) 99 102 (.agg #[(.int .i64 0),(.string ⟨#[]⟩)]) 24 rfl Tryz.underlying99 info102 rfl (by decide) (by omega) u5 x5_2 (⟨t111,t112⟩ : S102) [.int .i64 t111,.string t112] (fun k_ => k_ ≠ gb110 ∧ k_ ≠ gb115) (fun _ => False) rfl (by first|(go_simp;done)|(go_simp;rfl)) ?aP (fun _ hk => hk.elim) ?aF ?aO ?aB ?aS ?aL ?_;(case aP => exact k102_mkM _ _ _ (⟨t111,t112⟩ : S102));(case aB => exact bH);(case aF => exact (fun k_ hk => ⟨Kd.freshB (g:=gb110) (o:=.cells #[.int .i64 x111000_2,.string x111001_2] 102 (0,0)) (by refine KU ?_;refine blk_far ?_ NB110_115.out _;refine KU ?_;refine blk_far ?_ NB110_115.out _;refine KU ?_;exact BK110.out) k_ hk,Kd.freshB (g:=gb115) (o:=.cells #[.int .i64 t111,.string t112] 102 (0,0)) (by refine KU ?_;refine blk_put (cs:=#[.int .i64 t111,.string (⟨#[]⟩ : ByteArray)]) ?_ 1 _ rfl;refine KU ?_;refine blk_put (cs:=#[.int .i64 0,.string (⟨#[]⟩ : ByteArray)]) ?_ 0 _ rfl;refine KU ?_;exact BK115.out) k_ hk⟩));(case aO => exact (by (with_reducible repeat (first|apply Kd.R_alloc|apply Kd.R_drewN|apply Kd.R_drew));exact Kd.R_mono (RF gb115 1 (RF gb115 0 (Kd.R_mono HO_5.out (fun k_ hk => (⟨hk,hk.2⟩ : _ ∧ k_ ≠ gb115))) (.int .i64 t111)) (.string t112)) (fun _ hk => ⟨hk.1.1,hk.1.2⟩)));(case aS => exact (below_size bH));(case aL => have:=LMc25.out;omega);intro v117 w30 ho hb hg hat;rw [← Ny116.out] at ho;have n0_:=aq (blk_grown (g:=gb110) (o:=.cells #[.int .i64 x111000_2,.string x111001_2] 102 (0,0)) (by refine KU ?_;refine blk_far ?_ NB110_115.out _;refine KU ?_;refine blk_far ?_ NB110_115.out _;refine KU ?_;exact BK110.out) hg (Kd.R_away HO_5.out (fun _ hk => hk.1)));have n1_:=aq (blk_grown (g:=gb115) (o:=.cells #[.int .i64 t111,.string t112] 102 (0,0)) (by refine KU ?_;refine blk_put (cs:=#[.int .i64 t111,.string (⟨#[]⟩ : ByteArray)]) ?_ 1 _ rfl;refine KU ?_;refine blk_put (cs:=#[.int .i64 0,.string (⟨#[]⟩ : ByteArray)]) ?_ 0 _ rfl;refine KU ?_;exact BK115.out) hg (Kd.R_away HO_5.out (fun _ hk => hk.2)));have n2_:=aq (hb);have n3_:=aq (ho);clear BK110;clear BK115;clear HB;clear HO_5;have BK110:=n0_;have BK115:=n1_;have HB:=n2_;have HO118:=n3_;clear n0_ n1_ n2_ n3_;clear ho hb hg hat))
   go_roundg kj11
   case measure => have:=HJ4.out;have:=HK2.out;have:=HJ11.out;omega
   case rel => exact ⟨(y116),(t113),(x111000_2),(x111001_2),eS,H',⟨by have:=HJ4.out;have:=HK2.out;have:=HJ11.out;omega⟩,⟨by (with_reducible repeat (first|apply Kd.R_alloc|apply Kd.R_drewN|apply Kd.R_drew));exact Kd.R_mono HO118.out (fun _ hk => hk.1)⟩,⟨KU BK110.out⟩,⟨bH⟩⟩
 replace c16:=Bool.eq_false_iff.mpr c16
 subst c16
 have H1 : (if x6_2 ≥ (a0.size : Int) then (some (([] : List (S102)),0,(⟨#[]⟩ : ByteArray),1)) else (if 0 ≤ (wrap64 (x6_2 + 1)) then (if (wrap64 (x6_2 + 1)) ≤ (a0.size : Int) then ((sr06_Parse.f kj11 (a0.extract ((wrap64 (x6_2 + 1)) : Int).toNat a0.size)).bind fun bt119 => (if bt119.2.2 = 0 then (if (x5_2.length : Int) > 8 then (some (([] : List (S102)),0,(⟨#[]⟩ : ByteArray),3)) else (some (x5_2,bt119.1,bt119.2.1,0))) else (some (([] : List (S102)),0,(⟨#[]⟩ : ByteArray),bt119.2.2)))) else (none)) else (none))) = some (r1,r2,r3,r4):=by rw [if_neg (show ¬ (false = true) by decide)] at H;exact H
 clear H
 have H:=H1
 clear H1
 by_cases c36 : x6_2 ≥ (a0.size : Int)
 · rw [if_pos c36] at H
   have c36b0 : decide ((a0.size : Int) ≤ x6_2) = true:=decide_eq_true c36
   clear c36
   simp only [Option.some.injEq,Prod.mk.injEq] at H
   obtain ⟨rfl,rfl,rfl,rfl⟩:=H
   have hcz37_0 : wc.cell? ⟨gb110,0,none⟩ = some (.int .i64 x111000_2):=(blk_cell BK110.out 0).trans rfl
   have hcz37_1 : wc.cell? ⟨gb110,1,none⟩ = some (.string x111001_2):=(blk_cell BK110.out 1).trans rfl
   have hfz37_0:=blk_frozen BK110.out 0
   have hfz37_1:=blk_frozen BK110.out 1
   go_wp2
   refine bodyPost_ret (results_list (rs:=[.tmp 2,.cell 3 102,.tmp 4]) rfl (by simp) (.tmp (.cell gb110 102 #[.int .i64 0,.string (⟨#[]⟩ : ByteArray)] (0,0) _ rfl (by refine KU ?_;refine blk_put (cs:=#[.int .i64 0,.string x111001_2]) ?_ 1 _ rfl;refine KU ?_;refine blk_put (cs:=#[.int .i64 x111000_2,.string x111001_2]) ?_ 0 _ rfl;refine KU ?_;exact BK110.out) Tryz.underlying102 rfl (by kernel_rfl) (.tmp .nil)))) rfl ?_
   exact ⟨_,eR,by first|exact Kd.R_nil _ _ _ _ _|exact Kd.N_nil _ _ _ _ _|exact Kd.V_nil _ _ _ _ _|exact Kd.Q_nil _ _ _ _ _|exact Kd.S_nil _ _ _ _ _,bH⟩
 rw [if_neg c36] at H
 have c36b0 : decide ((a0.size : Int) ≤ x6_2) = false:=decide_eq_false c36
 clear c36
 obtain ⟨ji38,hji38⟩ : ∃ j_ : Int,(wrap64 (x6_2 + 1)) = j_:=⟨_,rfl⟩
 replace H : (if 0 ≤ (ji38) then (if (ji38) ≤ (a0.size : Int) then ((sr06_Parse.f kj11 (a0.extract ((ji38) : Int).toNat a0.size)).bind fun bt119 => (if bt119.2.2 = 0 then (if (x5_2.length : Int) > 8 then (some (([] : List (S102)),0,(⟨#[]⟩ : ByteArray),3)) else (some (x5_2,bt119.1,bt119.2.1,0))) else (some (([] : List (S102)),0,(⟨#[]⟩ : ByteArray),bt119.2.2)))) else (none)) else (none)) = some (r1,r2,r3,r4):=by first|(rw [hji38] at H;exact H)|(simp only [hji38] at H ⊢;exact H)
 have hji38w : (IntKind.i64.wrap (x6_2 + 1)) = ji38:=(i64_w _).trans hji38
 by_cases c39 : 0 ≤ (ji38)
 rotate_left
 · rw [if_neg c39] at H
   exact absurd H (by simp)
 rw [if_pos c39] at H
 have c39b0:=eq_true c39
 have c39b1 : decide (0 ≤ (ji38)) = true:=decide_eq_true c39
 clear c39
 by_cases c40 : (ji38) ≤ (a0.size : Int)
 rotate_left
 · rw [if_neg c40] at H
   exact absurd H (by simp)
 rw [if_pos c40] at H
 have c40b0:=eq_true c40
 have c40b1 : decide ((ji38) ≤ (a0.size : Int)) = true:=decide_eq_true c40
 clear c40
 replace H:=Option.bind_eq_some_iff.mp H
 obtain ⟨⟨t119,t120,t121⟩,A410,H⟩:=H
 replace H : (if t121 = 0 then (if (x5_2.length : Int) > 8 then (some (([] : List (S102)),0,(⟨#[]⟩ : ByteArray),3)) else (some (x5_2,t119,t120,0))) else (some (([] : List (S102)),0,(⟨#[]⟩ : ByteArray),t121))) = some (r1,r2,r3,r4):=H
 have A41:=aq A410
 clear A410
 by_cases c42 : t121 = 0
 rotate_left
 · rw [if_neg c42] at H
   have c42b0 : (t121 == 0) = false:=beq_eq_false_iff_ne.mpr c42
   have c42b1 : (t121 != 0) = true:=bne_iff_ne.mpr c42
   simp only [Option.some.injEq,Prod.mk.injEq] at H
   obtain ⟨rfl,rfl,rfl,rfl⟩:=H
   go_wp2_with (first|((with_reducible refine gate_callee (f:=108) rfl ?_);refine goesL_ (some 65) rfl rfl Tryz.func108 (by kernel_rfl) rfl #[.string (a0.extract ((ji38) : Int).toNat a0.size)] rfl (by (try simp only [List.map_toArray,List.map_cons,List.map_nil]);first|done|(simp only [hji38];rfl)|rfl|(simp only [List.length_drop,List.length_take];rfl)) ?_;(with_reducible refine (sr06_Parse.calls kj11 (a0.extract ((ji38) : Int).toNat a0.size) t119 t120 t121 _ A41.out).mono ?_);rintro e w59 ⟨rfl,hb⟩;refine ⟨_,rfl,?_⟩;replace HO_5:=RN HO_5 hb;replace BK110:=KN BK110 hb;replace HB:=aq (below_step bH hb);(try clear hb);(try clear hb2);(try clear hk);(try clear hi))|((with_reducible refine gate_dst (N:=10) rfl ?_);refine box_event rfl (N:=10) rfl (cs:=#[.int .i64 0,.string (⟨#[]⟩ : ByteArray)]) (t:=102) gS ?_;intro gb122 hg w60 hbox hb;have BK122:=aq (hbox);have GE122:=aq ((GN hg : w.heap.size ≤ gb122));have NB110_122:=aq (NL hg BK110);have NB122_110:=aq (NG hg BK110);replace HO_5:=aq (Kd.R_below (Kd.R_elderB (RU HO_5.out) gb122 (Nat.le_of_eq hg.symm)) hb);replace BK110:=KN BK110 hb;replace HB:=aq (below_step bH hb);clear hb hbox hg;have hnb61:=NB122_110.out;have hnc61:=NB110_122.out;have hcz62_0 : w60.cell? ⟨gb122,0,none⟩ = some (.int .i64 0):=(blk_cell BK122.out 0).trans rfl;have hcz62_1 : w60.cell? ⟨gb122,1,none⟩ = some (.string (⟨#[]⟩ : ByteArray)):=(blk_cell BK122.out 1).trans rfl;have hfz62_0:=blk_frozen BK122.out 0;have hfz62_1:=blk_frozen BK122.out 1;have hcz63_0 : w60.cell? ⟨gb110,0,none⟩ = some (.int .i64 x111000_2):=(blk_cell BK110.out 0).trans rfl;have hcz63_1 : w60.cell? ⟨gb110,1,none⟩ = some (.string x111001_2):=(blk_cell BK110.out 1).trans rfl;have hfz63_0:=blk_frozen BK110.out 0;have hfz63_1:=blk_frozen BK110.out 1))
   refine bodyPost_ret (results_list (rs:=[.tmp 2,.cell 3 102,.tmp 4]) rfl (by simp) (.tmp (.cell gb110 102 #[.int .i64 0,.string (⟨#[]⟩ : ByteArray)] (0,0) _ rfl (by refine KU ?_;refine blk_put (cs:=#[.int .i64 0,.string x111001_2]) ?_ 1 _ rfl;refine KU ?_;refine blk_put (cs:=#[.int .i64 x111000_2,.string x111001_2]) ?_ 0 _ rfl;refine KU ?_;refine blk_far ?_ NB110_122.out _;refine KU ?_;refine blk_far ?_ NB110_122.out _;refine KU ?_;exact BK110.out) Tryz.underlying102 rfl (by kernel_rfl) (.tmp .nil)))) rfl ?_
   exact ⟨_,by first|rfl|(simp [errW_none,errW_some] <;> rfl)|(simp only [← hji38];first|rfl|(simp [errW_none,errW_some] <;> rfl))|(simp [*,errW_none,errW_some] <;> rfl),by first|exact Kd.R_nil _ _ _ _ _|exact Kd.N_nil _ _ _ _ _|exact Kd.V_nil _ _ _ _ _|exact Kd.Q_nil _ _ _ _ _|exact Kd.S_nil _ _ _ _ _,bH⟩
 rw [if_pos c42] at H
 have c42b0 : (t121 == 0) = true:=beq_iff_eq.mpr c42
 have c42b1 : (t121 != 0) = false:=bne_eq_false_iff_eq.mpr c42
 clear c42
 by_cases c43 : (x5_2.length : Int) > 8
 · rw [if_pos c43] at H
   have c43b0 : decide (8 < (x5_2.length : Int)) = true:=decide_eq_true c43
   have c43b1 : decide (8 < x5_2.length) = true:=decide_eq_true (by omega)
   clear c43
   simp only [Option.some.injEq,Prod.mk.injEq] at H
   obtain ⟨rfl,rfl,rfl,rfl⟩:=H
   go_wp2_with (first|((with_reducible refine gate_callee (f:=108) rfl ?_);refine goesL_ (some 65) rfl rfl Tryz.func108 (by kernel_rfl) rfl #[.string (a0.extract ((ji38) : Int).toNat a0.size)] rfl (by (try simp only [List.map_toArray,List.map_cons,List.map_nil]);first|done|(simp only [hji38];rfl)|rfl|(simp only [List.length_drop,List.length_take];rfl)) ?_;(with_reducible refine (sr06_Parse.calls kj11 (a0.extract ((ji38) : Int).toNat a0.size) t119 t120 t121 _ A41.out).mono ?_);rintro e w44 ⟨rfl,hb⟩;refine ⟨_,rfl,?_⟩;replace HO_5:=RN HO_5 hb;replace BK110:=KN BK110 hb;replace HB:=aq (below_step bH hb);(try clear hb);(try clear hb2);(try clear hk);(try clear hi))|((with_reducible refine gate_dst (N:=10) rfl ?_);refine box_event rfl (N:=10) rfl (cs:=#[.int .i64 0,.string (⟨#[]⟩ : ByteArray)]) (t:=102) gS ?_;intro gb122 hg w45 hbox hb;have BK122:=aq (hbox);have GE122:=aq ((GN hg : w.heap.size ≤ gb122));have NB110_122:=aq (NL hg BK110);have NB122_110:=aq (NG hg BK110);replace HO_5:=aq (Kd.R_below (Kd.R_elderB (RU HO_5.out) gb122 (Nat.le_of_eq hg.symm)) hb);replace BK110:=KN BK110 hb;replace HB:=aq (below_step bH hb);clear hb hbox hg;have hnb46:=NB122_110.out;have hnc46:=NB110_122.out;have hcz47_0 : w45.cell? ⟨gb122,0,none⟩ = some (.int .i64 0):=(blk_cell BK122.out 0).trans rfl;have hcz47_1 : w45.cell? ⟨gb122,1,none⟩ = some (.string (⟨#[]⟩ : ByteArray)):=(blk_cell BK122.out 1).trans rfl;have hfz47_0:=blk_frozen BK122.out 0;have hfz47_1:=blk_frozen BK122.out 1;obtain ⟨Ao48,co48,eo48⟩:=Kd.R_slice HO_5.out;subst eo48;have hcz49_0 : w45.cell? ⟨gb110,0,none⟩ = some (.int .i64 x111000_2):=(blk_cell BK110.out 0).trans rfl;have hcz49_1 : w45.cell? ⟨gb110,1,none⟩ = some (.string x111001_2):=(blk_cell BK110.out 1).trans rfl;have hfz49_0:=blk_frozen BK110.out 0;have hfz49_1:=blk_frozen BK110.out 1))
   refine bodyPost_ret (results_list (rs:=[.tmp 2,.cell 3 102,.tmp 4]) rfl (by simp) (.tmp (.cell gb110 102 #[.int .i64 0,.string (⟨#[]⟩ : ByteArray)] (0,0) _ rfl (by refine KU ?_;refine blk_put (cs:=#[.int .i64 0,.string x111001_2]) ?_ 1 _ rfl;refine KU ?_;refine blk_put (cs:=#[.int .i64 x111000_2,.string x111001_2]) ?_ 0 _ rfl;refine KU ?_;refine blk_far ?_ NB110_122.out _;refine KU ?_;refine blk_far ?_ NB110_122.out _;refine KU ?_;exact BK110.out) Tryz.underlying102 rfl (by kernel_rfl) (.tmp .nil)))) rfl ?_
   exact ⟨_,by first|rfl|(simp [errW_none,errW_some] <;> rfl)|(simp only [← hji38];first|rfl|(simp [errW_none,errW_some] <;> rfl))|(simp [*,errW_none,errW_some] <;> rfl),by first|exact Kd.R_nil _ _ _ _ _|exact Kd.N_nil _ _ _ _ _|exact Kd.V_nil _ _ _ _ _|exact Kd.Q_nil _ _ _ _ _|exact Kd.S_nil _ _ _ _ _,bH⟩
 rw [if_neg c43] at H
 have c43b0 : decide (8 < (x5_2.length : Int)) = false:=decide_eq_false c43
 have c43b1 : decide (8 < x5_2.length) = false:=decide_eq_false (by omega)
 clear c43
 simp only [Option.some.injEq,Prod.mk.injEq] at H
 obtain ⟨rfl,rfl,rfl,rfl⟩:=H
 try go_wp2_with (first|((with_reducible refine gate_callee (f:=108) rfl ?_);refine goesL_ (some 65) rfl rfl Tryz.func108 (by kernel_rfl) rfl #[.string (a0.extract ((ji38) : Int).toNat a0.size)] rfl (by (try simp only [List.map_toArray,List.map_cons,List.map_nil]);first|done|(simp only [hji38];rfl)|rfl|(simp only [List.length_drop,List.length_take];rfl)) ?_;(with_reducible refine (sr06_Parse.calls kj11 (a0.extract ((ji38) : Int).toNat a0.size) t119 t120 t121 _ A41.out).mono ?_);rintro e w50 ⟨rfl,hb⟩;refine ⟨_,rfl,?_⟩;replace HO_5:=RN HO_5 hb;replace BK110:=KN BK110 hb;replace HB:=aq (below_step bH hb);(try clear hb);(try clear hb2);(try clear hk);(try clear hi))|((with_reducible refine gate_dst (N:=10) rfl ?_);refine box_event rfl (N:=10) rfl (cs:=#[.int .i64 0,.string (⟨#[]⟩ : ByteArray)]) (t:=102) gS ?_;intro gb122 hg w51 hbox hb;have BK122:=aq (hbox);have GE122:=aq ((GN hg : w.heap.size ≤ gb122));have NB110_122:=aq (NL hg BK110);have NB122_110:=aq (NG hg BK110);replace HO_5:=aq (Kd.R_below (Kd.R_elderB (RU HO_5.out) gb122 (Nat.le_of_eq hg.symm)) hb);replace BK110:=KN BK110 hb;replace HB:=aq (below_step bH hb);clear hb hbox hg;have hnb52:=NB122_110.out;have hnc52:=NB110_122.out;have hcz53_0 : w51.cell? ⟨gb122,0,none⟩ = some (.int .i64 0):=(blk_cell BK122.out 0).trans rfl;have hcz53_1 : w51.cell? ⟨gb122,1,none⟩ = some (.string (⟨#[]⟩ : ByteArray)):=(blk_cell BK122.out 1).trans rfl;have hfz53_0:=blk_frozen BK122.out 0;have hfz53_1:=blk_frozen BK122.out 1;obtain ⟨Ao54,co54,eo54⟩:=Kd.R_slice HO_5.out;subst eo54))
 have n0_ : Aside0 (Kd.R k102 102 ((w51.setCell ⟨gb122,0,none⟩ (.int .i64 t119)).setCell ⟨gb122,1,none⟩ (.string t120)) w.heap.size (fun k_ => k_ ≠ gb110 ∧ k_ ≠ gb122) (.slice Ao54 x5_2.length co54) x5_2):=⟨by (with_reducible repeat (first|apply Kd.R_alloc|apply Kd.R_drewN|apply Kd.R_drew));exact Kd.R_mono (RF gb122 1 (RF gb122 0 (Kd.R_mono HO_5.out (fun k_ hk => (⟨hk,hk.2⟩ : _ ∧ k_ ≠ gb122))) (.int .i64 t119)) (.string t120)) (fun _ hk => ⟨hk.1.1,hk.1.2⟩)⟩
 have n1_ : Aside0 (((w51.setCell ⟨gb122,0,none⟩ (.int .i64 t119)).setCell ⟨gb122,1,none⟩ (.string t120)).heap[gb110]? = some (.cells #[.int .i64 x111000_2,.string x111001_2] 102 (0,0))):=⟨by refine KU ?_;refine blk_far ?_ NB110_122.out _;refine KU ?_;refine blk_far ?_ NB110_122.out _;refine KU ?_;exact BK110.out⟩
 have n2_ : Aside0 (((w51.setCell ⟨gb122,0,none⟩ (.int .i64 t119)).setCell ⟨gb122,1,none⟩ (.string t120)).heap[gb122]? = some (.cells #[.int .i64 t119,.string t120] 102 (0,0))):=⟨by refine KU ?_;refine blk_put (cs:=#[.int .i64 t119,.string (⟨#[]⟩ : ByteArray)]) ?_ 1 _ rfl;refine KU ?_;refine blk_put (cs:=#[.int .i64 0,.string (⟨#[]⟩ : ByteArray)]) ?_ 0 _ rfl;refine KU ?_;exact BK122.out⟩
 have n3_ : Aside0 (Below w.heap.size w ((w51.setCell ⟨gb122,0,none⟩ (.int .i64 t119)).setCell ⟨gb122,1,none⟩ (.string t120))):=⟨bH⟩
 (try clear HO_5)
 (try clear BK110)
 (try clear BK122)
 (try clear HB)
 generalize ((w51.setCell ⟨gb122,0,none⟩ (.int .i64 t119)).setCell ⟨gb122,1,none⟩ (.string t120)) = w55 at n0_ n1_ n2_ n3_ ⊢
 have HO_5:=n0_
 have BK110:=n1_
 have BK122:=n2_
 have HB:=n3_
 clear n0_ n1_ n2_ n3_
 replace HO_5:=aq (Kd.R_drew HO_5.out)
 replace BK110:=aq (blk_drew BK110.out)
 replace BK122:=aq (blk_drew BK122.out)
 replace HB:=aq (below_drew1 HB.out)
 refine start_ (n:=5) (S:=fun w' => w'.cell? ⟨gb122,0,none⟩ = some (.int .i64 t119) ∧ w'.cell? ⟨gb122,1,none⟩ = some (.string t120)) (ds:=[]) #[false,false,false,false,false] (by kernel_rfl) rfl rfl ⟨(blk_cell BK122.out 0).trans rfl,(blk_cell BK122.out 1).trans rfl⟩ (fun hHeld => ?_)
 generalize w55.drew = w56 at HO_5 BK110 BK122 HB hHeld ⊢
 refine pure_ (i:=0) (N:=some 76) (v:=?_) (a':=?_) #[true,false,false,false,false] rfl rfl (by kernel_rfl) (fun _ _ _ h => h) (Or.inl ⟨by rfl,?_⟩) ?_ ?_
 rotate_left
 · intro w'
   go_simp
   with_reducible rfl
 rotate_left
 · simp only [Act.put,List.setIfInBounds_toArray,List.set_cons_zero,List.set_cons_succ,i64_w,i32_w]
   rfl
 refine pure_ (i:=2) (N:=some 2) (v:=?_) (a':=?_) #[true,false,true,false,false] rfl rfl (by kernel_rfl) (fun _ _ _ h => h) (Or.inl ⟨by rfl,?_⟩) ?_ ?_
 rotate_left
 · intro w'
   go_simp
   with_reducible rfl
 rotate_left
 · simp only [Act.put,List.setIfInBounds_toArray,List.set_cons_zero,List.set_cons_succ,i64_w,i32_w]
   rfl
 refine take_ (i:=1) (N:=some 77) (v:=?_) (a':=?_) #[true,true,true,false,false] rfl rfl (by kernel_rfl) (fun _ _ _ h => h) (Or.inl ⟨by rfl,?_⟩) hHeld ?_ ?_
 rotate_left
 · rintro w' ⟨s0,s1⟩
   go_simp
   with_reducible rfl
 rotate_left
 · simp only [Act.put,List.setIfInBounds_toArray,List.set_cons_zero,List.set_cons_succ,i64_w,i32_w]
   rfl
 refine one_ (i:=3) (N:=none) #[true,true,true,true,false] rfl rfl (by kernel_rfl) (by decide) (fun K hK => ?_)
 have hs57 : w56.cell? ⟨gb110,0,none⟩ = some (.int .i64 x111000_2):=(blk_cell BK110.out 0).trans rfl
 have hfs57:=blk_frozen BK110.out 0
 have hns57_1:=NB122_110.out
 have hms57_1:=NB110_122.out
 have hs58 : w56.cell? ⟨gb110,1,none⟩ = some (.string x111001_2):=(blk_cell BK110.out 1).trans rfl
 have hfs58:=blk_frozen BK110.out 1
 have hns58_1:=NB122_110.out
 have hms58_1:=NB110_122.out
 refine skip_ (w1:=?_) (by rfl) rfl ?_ ?_
 rotate_left
 · go_simp
   rfl
 refine hK.out _ _ ⟨((cell_far (p:=⟨gb110,_,none⟩) NB122_110.out _).trans (((cell_far (p:=⟨gb110,_,none⟩) NB122_110.out _).trans (hHeld.1)))),((cell_far (p:=⟨gb110,_,none⟩) NB122_110.out _).trans (((cell_far (p:=⟨gb110,_,none⟩) NB122_110.out _).trans (hHeld.2))))⟩ (fun hHeld => ?_)
 clear hK K
 refine pure_ (i:=4) (N:=some 4) (v:=?_) (a':=?_) #[true,true,true,true,true] rfl rfl (by kernel_rfl) (fun _ _ _ h => h) (Or.inl ⟨by rfl,?_⟩) ?_ ?_
 rotate_left
 · intro w'
   go_simp
   with_reducible rfl
 rotate_left
 · simp only [Act.put,List.setIfInBounds_toArray,List.set_cons_zero,List.set_cons_succ,i64_w,i32_w]
   rfl
 refine done_ (by kernel_rfl) ?_
 try go_wp2
 refine bodyPost_ret (results_list (rs:=[.tmp 2,.cell 3 102,.tmp 4]) rfl (by simp) (.tmp (.cell gb110 102 #[.int .i64 t119,.string t120] (0,0) _ rfl (by refine KU ?_;refine blk_put (cs:=#[.int .i64 t119,.string x111001_2]) ?_ 1 _ rfl;refine KU ?_;refine blk_put (cs:=#[.int .i64 x111000_2,.string x111001_2]) ?_ 0 _ rfl;refine KU ?_;exact BK110.out) Tryz.underlying102 rfl (by kernel_rfl) (.tmp .nil)))) rfl ?_
 exact ⟨_,by first|rfl|(simp [errW_none,errW_some] <;> rfl)|(simp only [← hji38];first|rfl|(simp [errW_none,errW_some] <;> rfl))|(simp [*,errW_none,errW_some] <;> rfl),by (with_reducible repeat (first|apply Kd.R_alloc|apply Kd.R_drewN|apply Kd.R_drew));exact Kd.R_mono (RF gb110 1 (RF gb110 0 (Kd.R_mono HO_5.out (fun k_ hk => (⟨hk,hk.1⟩ : _ ∧ k_ ≠ gb110))) (.int .i64 t119)) (.string t120)) (fun _ hk => trivial),bH⟩
mutual
def sr06_Desc.l0 : Nat → List (S102) → ByteArray → Int → Int → ByteArray → Option (ByteArray × Int)
  | 0,_,_,_,_,_ => none
  | k + 1,x1,x6,x7,x133000,x133001 => if x7 < (x1.length : Int) then (if 0 ≤ x7 then ((sr06_Right.f k ((rd_T102 x1 x7).f0) ((rd_T102 x1 x7).f1)).bind fun t134 => (if t134 = true then (sr06_Desc.j1 k x1 x6 x7 (((rd_T102 x1 x7).f0) == 1) x133000 x133001) else (sr06_Desc.j1 k x1 x6 x7 true x133000 x133001))) else (none)) else ((sr06_Right.f k x133000 x133001).bind fun t138 => (if t138 = true then ((sr06_Text.f k x133000 x133001).bind fun t139 => (if 1 + t139.size ≤ 9223372036854775807 then (if x6.size + ((⟨#[41]⟩ : ByteArray) ++ t139).size ≤ 9223372036854775807 then (if (x1.length : Int) > 8 then (some ((⟨#[]⟩ : ByteArray),3)) else (if ((x6 ++ ((⟨#[41]⟩ : ByteArray) ++ t139)).size : Int) > 64 then (some ((⟨#[]⟩ : ByteArray),3)) else (some (x6 ++ ((⟨#[41]⟩ : ByteArray) ++ t139),0)))) else (none)) else (none))) else (some ((⟨#[]⟩ : ByteArray),1))))
def sr06_Desc.j1 : Nat → List (S102) → ByteArray → Int → Bool → Int → ByteArray → Option (ByteArray × Int)
  | 0,_,_,_,_,_,_ => none
  | k + 1,x1,x6,x7,x27,x133000,x133001 => if x27 = true then (some ((⟨#[]⟩ : ByteArray),1)) else (if x7 ≤ 8 then (if 0 ≤ x7 then (if x7 < (x1.length : Int) then ((sr06_Text.f k ((rd_T102 x1 x7).f0) ((rd_T102 x1 x7).f1)).bind fun t137 => (if x6.size + t137.size ≤ 9223372036854775807 then (sr06_Desc.l0 k x1 (x6 ++ t137) (wrap64 (x7 + 1)) x133000 x133001) else (none))) else (none)) else (none)) else (sr06_Desc.l0 k x1 x6 (wrap64 (x7 + 1)) x133000 x133001))
end
def sr06_Desc.f (k : Nat) (a0_0 : Int) (a0_1 : ByteArray) (l1 : List (S102)) : Option (ByteArray × Int) := sr06_Desc.l0 k l1 (⟨#[40]⟩ : ByteArray) 0 a0_0 a0_1
theorem sr06_Desc.calls (k : Nat) (a0_0 : Int) (a0_1 : ByteArray) (A1 : Option Addr) (c1 : Nat) (l1 : List (S102)) (r1 : ByteArray) (r2 : Int) (w : World) (hr1 : Kd.C k102 w A1 l1.length l1) (hc1 : l1.length ≤ c1) (h : sr06_Desc.f k a0_0 a0_1 l1 = some (r1, r2)) :
    Calls Tryz.prog 85 #[.agg #[.int .i64 a0_0,.string a0_1],.slice A1 l1.length c1] w fun e w' => e = .returned (.tuple #[.string r1,.int .i64 r2]) ∧ Below w.heap.size w w':=by
 have hu102:=Tryz.underlying102
 have HR1:=aq hr1
 have HC1:=aq hc1
 clear hr1 hc1
 have HB:=aq (Below.refl w.heap.size w)
 have H : (sr06_Desc.l0 k l1 (⟨#[40]⟩ : ByteArray) 0 a0_0 a0_1) = some (r1,r2):=h
 clear h
 have H':=aq H
 clear H
 go_enter Tryz.func85,Tryz.ntmps85
 go_wp2_with (first|((with_reducible refine gate_dst (N:=2) rfl ?_);(try (refine gate_guard (by rfl) ?_;dsimp only));refine box_event rfl (N:=2) rfl (cs:=#[.int .i64 a0_0,.string a0_1]) (t:=102) gS ?_;intro gb132 hg w3 hbox hb;have BK132:=aq (hbox);have GE132:=aq ((GN hg : w.heap.size ≤ gb132));replace HB:=aq (below_step bH hb);clear hb hbox hg))
 go_loopg [6,7] k (fun kq v6 v7 w' => ∃ (x6_1 : ByteArray) (x7_1 : Int),v6 = .string x6_1 ∧ v7 = .int .i64 x7_1 ∧ Aside0 (sr06_Desc.l0 kq l1 x6_1 x7_1 a0_0 a0_1 = some (r1,r2)) ∧ Aside0 (kq ≤ k) ∧ Aside0 (w'.heap[gb132]? = some (.cells #[.int .i64 a0_0,.string a0_1] 102 (0,0))) ∧ Aside0 (Below w.heap.size w w'))
 case atStart => exact ⟨((⟨#[40]⟩ : ByteArray)),(0),eS,eS,H',⟨Nat.le_refl _⟩,⟨KU BK132.out⟩,⟨bH⟩⟩
 case round =>
 clear H'
 try clear c1
 obtain ⟨x6_1,x7_1,rfl,rfl,HA,HK1,BK132,HB⟩:=hrel
 cases gk with
 | zero => exact absurd HA.out (by simp [sr06_Desc.l0])
 | succ k1 =>
 have H:=HA.out
 clear HA
 simp only [sr06_Desc.l0] at H
 by_cases c4 : x7_1 < (l1.length : Int)
 · rw [if_pos c4] at H
   have c4b0 : decide (x7_1 < (l1.length : Int)) = true:=decide_eq_true c4
   clear c4
   have HC5:=aq H
   clear H
   go_upto_region 5 with (fail)
   go_cut [27] (fun v27 wc => ∃ (kq : Nat) (x27_4 : Bool),v27 = .bool x27_4 ∧ Aside0 (sr06_Desc.j1 kq l1 x6_1 x7_1 x27_4 a0_0 a0_1 = some (r1,r2)) ∧ Aside0 (kq ≤ k1) ∧ Aside0 (wc.heap[gb132]? = some (.cells #[.int .i64 a0_0,.string a0_1] 102 (0,0))) ∧ Aside0 (Below w.heap.size w wc))
   case first =>
    have H:=HC5.out
    clear HC5
    by_cases c6 : 0 ≤ x7_1
    rotate_left
    · rw [if_neg c6] at H
      exact absurd H (by simp)
    rw [if_pos c6] at H
    have c6b0 : decide (0 ≤ x7_1) = true:=decide_eq_true c6
    clear c6
    (first|rw [c6b0]|rw [c6b1]|(simp only [i64_w,i32_w];rw [c6b0])|skip)
    replace H:=Option.bind_eq_some_iff.mp H
    obtain ⟨t134,A70,H⟩:=H
    have A7:=aq A70
    clear A70
    by_cases c8 : t134 = true
    rotate_left
    · replace c8:=Bool.eq_false_iff.mpr c8
      subst c8
      have H1 : (sr06_Desc.j1 k1 l1 x6_1 x7_1 true a0_0 a0_1) = some (r1,r2):=by rw [if_neg (show ¬ (false = true) by decide)] at H;exact H
      clear H
      have H:=H1
      clear H1
      have H':=aq H
      clear H
      have p133 : 0 ≤ (x7_1 : Int):=of_decide_eq_true aS
      have q133 : x7_1 < (l1.length : Int):=of_decide_eq_true aS
      obtain ⟨ad133,e133,hx133_0,hx133_1⟩:=at_T102 HR1.out x7_1 p133 q133
      cases e133
      replace hx133_0:=(HB.out.cell (World.block_lt_of_cell? w _ hx133_0)).trans hx133_0
      replace hx133_1:=(HB.out.cell (World.block_lt_of_cell? w _ hx133_1)).trans hx133_1
      replace p133:=eq_true p133
      replace q133:=eq_true q133
      go_wp2_with (first|((with_reducible refine gate_callee (f:=109) rfl ?_);refine goesL_ (some 18) rfl rfl Tryz.func109 (by kernel_rfl) rfl #[.agg #[.int .i64 ((rd_T102 l1 x7_1).f0),.string ((rd_T102 l1 x7_1).f1)]] rfl eA ?_;(with_reducible refine (sr06_Right.calls k1 ((rd_T102 l1 x7_1).f0) ((rd_T102 l1 x7_1).f1) false _ A7.out).mono ?_);rintro e w10 ⟨rfl,hb⟩;refine ⟨_,rfl,?_⟩;replace BK132:=KN BK132 hb;replace HB:=aq (below_step bH hb);(try clear hb);(try clear hb2);(try clear hk);(try clear hi)))
      go_meet
      case rel => exact ⟨_,(true),eS,H',⟨by have:=HK1.out;first|omega|exact Nat.le_refl _⟩,⟨KU BK132.out⟩,⟨bH⟩⟩
    subst c8
    have H1 : (sr06_Desc.j1 k1 l1 x6_1 x7_1 (((rd_T102 l1 x7_1).f0) == 1) a0_0 a0_1) = some (r1,r2):=by rw [if_pos rfl] at H;exact H
    clear H
    have H:=H1
    clear H1
    have H':=aq H
    clear H
    have p133 : 0 ≤ (x7_1 : Int):=of_decide_eq_true aS
    have q133 : x7_1 < (l1.length : Int):=of_decide_eq_true aS
    obtain ⟨ad133,e133,hx133_0,hx133_1⟩:=at_T102 HR1.out x7_1 p133 q133
    cases e133
    replace hx133_0:=(HB.out.cell (World.block_lt_of_cell? w _ hx133_0)).trans hx133_0
    replace hx133_1:=(HB.out.cell (World.block_lt_of_cell? w _ hx133_1)).trans hx133_1
    replace p133:=eq_true p133
    replace q133:=eq_true q133
    go_wp2_with (first|((with_reducible refine gate_callee (f:=109) rfl ?_);refine goesL_ (some 18) rfl rfl Tryz.func109 (by kernel_rfl) rfl #[.agg #[.int .i64 ((rd_T102 l1 x7_1).f0),.string ((rd_T102 l1 x7_1).f1)]] rfl eA ?_;(with_reducible refine (sr06_Right.calls k1 ((rd_T102 l1 x7_1).f0) ((rd_T102 l1 x7_1).f1) true _ A7.out).mono ?_);rintro e w9 ⟨rfl,hb⟩;refine ⟨_,rfl,?_⟩;replace BK132:=KN BK132 hb;replace HB:=aq (below_step bH hb);(try clear hb);(try clear hb2);(try clear hk);(try clear hi);have p135 : 0 ≤ (x7_1 : Int):=of_decide_eq_true aS;have q135 : x7_1 < (l1.length : Int):=of_decide_eq_true aS;obtain ⟨ad135,e135,hx135_0,hx135_1⟩:=at_T102 HR1.out x7_1 p135 q135;obtain rfl : ad133 = ad135:=(by injection e135);replace hx135_0:=(HB.out.cell (World.block_lt_of_cell? w _ hx135_0)).trans hx135_0;replace hx135_1:=(HB.out.cell (World.block_lt_of_cell? w _ hx135_1)).trans hx135_1;replace p135:=eq_true p135;replace q135:=eq_true q135))
    go_meet
    case rel => exact ⟨_,((((rd_T102 l1 x7_1).f0) == 1)),eS,H',⟨by have:=HK1.out;first|omega|exact Nat.le_refl _⟩,⟨KU BK132.out⟩,⟨bH⟩⟩
   case rest =>
   clear HC5
   (try clear c1);(try clear c4);(try clear c4b0)
   obtain ⟨kq,x27_4,rfl,HA,HJ4,BK132,HB⟩:=hcut
   cases kq with
   | zero => exact absurd HA.out (by simp [sr06_Desc.j1])
   | succ kj4 =>
   have H:=HA.out
   clear HA
   simp only [sr06_Desc.j1] at H
   by_cases c11 : x27_4 = true
   · subst c11
     have H1 : (some ((⟨#[]⟩ : ByteArray),1)) = some (r1,r2):=by rw [if_pos rfl] at H;exact H
     clear H
     have H:=H1
     clear H1
     simp only [Option.some.injEq,Prod.mk.injEq] at H
     obtain ⟨rfl,rfl⟩:=H
     go_wp2
     go_ret2
     exact ⟨eR,bH⟩
   replace c11:=Bool.eq_false_iff.mpr c11
   subst c11
   have H1 : (if x7_1 ≤ 8 then (if 0 ≤ x7_1 then (if x7_1 < (l1.length : Int) then ((sr06_Text.f kj4 ((rd_T102 l1 x7_1).f0) ((rd_T102 l1 x7_1).f1)).bind fun t137 => (if x6_1.size + t137.size ≤ 9223372036854775807 then (sr06_Desc.l0 kj4 l1 (x6_1 ++ t137) (wrap64 (x7_1 + 1)) a0_0 a0_1) else (none))) else (none)) else (none)) else (sr06_Desc.l0 kj4 l1 x6_1 (wrap64 (x7_1 + 1)) a0_0 a0_1)) = some (r1,r2):=by rw [if_neg (show ¬ (false = true) by decide)] at H;exact H
   clear H
   have H:=H1
   clear H1
   by_cases c12 : x7_1 ≤ 8
   rotate_left
   · rw [if_neg c12] at H
     have c12b0 : decide (x7_1 ≤ 8) = false:=decide_eq_false c12
     clear c12
     have H':=aq H
     clear H
     go_wp2
     go_roundg kj4
     case measure => have:=HK1.out;have:=HJ4.out;omega
     case rel => exact ⟨(x6_1),(wrap64 (x7_1 + 1)),eS,eS,H',⟨by have:=HK1.out;have:=HJ4.out;omega⟩,⟨KU BK132.out⟩,⟨bH⟩⟩
   rw [if_pos c12] at H
   have c12b0 : decide (x7_1 ≤ 8) = true:=decide_eq_true c12
   clear c12
   by_cases c13 : 0 ≤ x7_1
   rotate_left
   · rw [if_neg c13] at H
     exact absurd H (by simp)
   rw [if_pos c13] at H
   have c13b0 : decide (0 ≤ x7_1) = true:=decide_eq_true c13
   clear c13
   by_cases c14 : x7_1 < (l1.length : Int)
   rotate_left
   · rw [if_neg c14] at H
     exact absurd H (by simp)
   rw [if_pos c14] at H
   have c14b0 : decide (x7_1 < (l1.length : Int)) = true:=decide_eq_true c14
   clear c14
   replace H:=Option.bind_eq_some_iff.mp H
   obtain ⟨t137,A150,H⟩:=H
   have A15:=aq A150
   clear A150
   by_cases c16 : x6_1.size + t137.size ≤ 9223372036854775807
   rotate_left
   · rw [if_neg c16] at H
     exact absurd H (by simp)
   rw [if_pos c16] at H
   have c16b0:=eq_true c16
   have c16b1 : decide (x6_1.size + t137.size ≤ 9223372036854775807) = true:=decide_eq_true c16
   try have c16b2 : (9223372036854775807 < x6_1.size + t137.size) = False:=eq_false (Nat.not_lt.2 c16)
   have H':=aq H
   clear H
   have p136 : 0 ≤ (x7_1 : Int):=of_decide_eq_true aS
   have q136 : x7_1 < (l1.length : Int):=of_decide_eq_true aS
   obtain ⟨ad136,e136,hx136_0,hx136_1⟩:=at_T102 HR1.out x7_1 p136 q136
   cases e136
   replace hx136_0:=(HB.out.cell (World.block_lt_of_cell? w _ hx136_0)).trans hx136_0
   replace hx136_1:=(HB.out.cell (World.block_lt_of_cell? w _ hx136_1)).trans hx136_1
   replace p136:=eq_true p136
   replace q136:=eq_true q136
   go_wp2_with (first|((with_reducible refine gate_callee (f:=110) rfl ?_);refine goesL_ (some 35) rfl rfl Tryz.func110 (by kernel_rfl) rfl #[.agg #[.int .i64 ((rd_T102 l1 x7_1).f0),.string ((rd_T102 l1 x7_1).f1)]] rfl eA ?_;(with_reducible refine (sr06_Text.calls kj4 ((rd_T102 l1 x7_1).f0) ((rd_T102 l1 x7_1).f1) t137 _ A15.out).mono ?_);rintro e w17 ⟨rfl,hb⟩;refine ⟨_,rfl,?_⟩;replace BK132:=KN BK132 hb;replace HB:=aq (below_step bH hb);(try clear hb);(try clear hb2);(try clear hk);(try clear hi)))
   go_roundg kj4
   case measure => have:=HK1.out;have:=HJ4.out;omega
   case rel => exact ⟨(x6_1 ++ t137),(wrap64 (x7_1 + 1)),eS,eS,H',⟨by have:=HK1.out;have:=HJ4.out;omega⟩,⟨KU BK132.out⟩,⟨bH⟩⟩
 rw [if_neg c4] at H
 have c4b0 : decide (x7_1 < (l1.length : Int)) = false:=decide_eq_false c4
 clear c4
 replace H:=Option.bind_eq_some_iff.mp H
 obtain ⟨t138,A180,H⟩:=H
 have A18:=aq A180
 clear A180
 by_cases c19 : t138 = true
 rotate_left
 · replace c19:=Bool.eq_false_iff.mpr c19
   subst c19
   have H1 : (some ((⟨#[]⟩ : ByteArray),1)) = some (r1,r2):=by rw [if_neg (show ¬ (false = true) by decide)] at H;exact H
   clear H
   have H:=H1
   clear H1
   simp only [Option.some.injEq,Prod.mk.injEq] at H
   obtain ⟨rfl,rfl⟩:=H
   have hcz37_0 : wr.cell? ⟨gb132,0,none⟩ = some (.int .i64 a0_0):=(blk_cell BK132.out 0).trans rfl
   have hcz37_1 : wr.cell? ⟨gb132,1,none⟩ = some (.string a0_1):=(blk_cell BK132.out 1).trans rfl
   have hfz37_0:=blk_frozen BK132.out 0
   have hfz37_1:=blk_frozen BK132.out 1
   go_wp2_with (first|((with_reducible refine gate_callee (f:=109) rfl ?_);refine goesL_ (some 38) rfl rfl Tryz.func109 (by kernel_rfl) rfl #[.agg #[.int .i64 a0_0,.string a0_1]] rfl eA ?_;(with_reducible refine (sr06_Right.calls k1 a0_0 a0_1 false _ A18.out).mono ?_);rintro e w38 ⟨rfl,hb⟩;refine ⟨_,rfl,?_⟩;replace BK132:=KN BK132 hb;replace HB:=aq (below_step bH hb);(try clear hb);(try clear hb2);(try clear hk);(try clear hi)))
   go_ret2
   exact ⟨eR,bH⟩
 subst c19
 have H1 : ((sr06_Text.f k1 a0_0 a0_1).bind fun t139 => (if 1 + t139.size ≤ 9223372036854775807 then (if x6_1.size + ((⟨#[41]⟩ : ByteArray) ++ t139).size ≤ 9223372036854775807 then (if (l1.length : Int) > 8 then (some ((⟨#[]⟩ : ByteArray),3)) else (if ((x6_1 ++ ((⟨#[41]⟩ : ByteArray) ++ t139)).size : Int) > 64 then (some ((⟨#[]⟩ : ByteArray),3)) else (some (x6_1 ++ ((⟨#[41]⟩ : ByteArray) ++ t139),0)))) else (none)) else (none))) = some (r1,r2):=by rw [if_pos rfl] at H;exact H
 clear H
 have H:=H1
 clear H1
 replace H:=Option.bind_eq_some_iff.mp H
 obtain ⟨t139,A200,H⟩:=H
 have A20:=aq A200
 clear A200
 by_cases c21 : 1 + t139.size ≤ 9223372036854775807
 rotate_left
 · rw [if_neg c21] at H
   exact absurd H (by simp)
 rw [if_pos c21] at H
 have c21b0:=eq_true c21
 have c21b1 : decide (1 + t139.size ≤ 9223372036854775807) = true:=decide_eq_true c21
 try have c21b2 : (9223372036854775807 < 1 + t139.size) = False:=eq_false (Nat.not_lt.2 c21)
 by_cases c22 : x6_1.size + ((⟨#[41]⟩ : ByteArray) ++ t139).size ≤ 9223372036854775807
 rotate_left
 · rw [if_neg c22] at H
   exact absurd H (by simp)
 rw [if_pos c22] at H
 have c22b0:=eq_true c22
 have c22b1 : decide (x6_1.size + ((⟨#[41]⟩ : ByteArray) ++ t139).size ≤ 9223372036854775807) = true:=decide_eq_true c22
 try have c22b2 : (9223372036854775807 < x6_1.size + ((⟨#[41]⟩ : ByteArray) ++ t139).size) = False:=eq_false (Nat.not_lt.2 c22)
 try have c22b3 : (9223372036854775807 < x6_1.size + (1 + t139.size)) = False:=eq_false (Nat.not_lt.2 (by have h_:=c22;simp only [ByteArray.size_append] at h_;exact h_))
 by_cases c23 : (l1.length : Int) > 8
 · rw [if_pos c23] at H
   have c23b0 : decide (8 < (l1.length : Int)) = true:=decide_eq_true c23
   have c23b1 : decide (8 < l1.length) = true:=decide_eq_true (by omega)
   clear c23
   simp only [Option.some.injEq,Prod.mk.injEq] at H
   obtain ⟨rfl,rfl⟩:=H
   have hcz24_0 : wr.cell? ⟨gb132,0,none⟩ = some (.int .i64 a0_0):=(blk_cell BK132.out 0).trans rfl
   have hcz24_1 : wr.cell? ⟨gb132,1,none⟩ = some (.string a0_1):=(blk_cell BK132.out 1).trans rfl
   have hfz24_0:=blk_frozen BK132.out 0
   have hfz24_1:=blk_frozen BK132.out 1
   go_wp2_with (first|((with_reducible refine gate_callee (f:=109) rfl ?_);refine goesL_ (some 38) rfl rfl Tryz.func109 (by kernel_rfl) rfl #[.agg #[.int .i64 a0_0,.string a0_1]] rfl eA ?_;(with_reducible refine (sr06_Right.calls k1 a0_0 a0_1 true _ A18.out).mono ?_);rintro e w25 ⟨rfl,hb⟩;refine ⟨_,rfl,?_⟩;replace BK132:=KN BK132 hb;replace HB:=aq (below_step bH hb);(try clear hb);(try clear hb2);(try clear hk);(try clear hi);have hcz26_0 : w25.cell? ⟨gb132,0,none⟩ = some (.int .i64 a0_0):=(blk_cell BK132.out 0).trans rfl;have hcz26_1 : w25.cell? ⟨gb132,1,none⟩ = some (.string a0_1):=(blk_cell BK132.out 1).trans rfl;have hfz26_0:=blk_frozen BK132.out 0;have hfz26_1:=blk_frozen BK132.out 1)|((with_reducible refine gate_callee (f:=110) rfl ?_);refine goesL_ (some 42) rfl rfl Tryz.func110 (by kernel_rfl) rfl #[.agg #[.int .i64 a0_0,.string a0_1]] rfl eA ?_;(with_reducible refine (sr06_Text.calls k1 a0_0 a0_1 t139 _ A20.out).mono ?_);rintro e w27 ⟨rfl,hb⟩;refine ⟨_,rfl,?_⟩;replace BK132:=KN BK132 hb;replace HB:=aq (below_step bH hb);(try clear hb);(try clear hb2);(try clear hk);(try clear hi)))
   go_ret2
   exact ⟨eR,bH⟩
 rw [if_neg c23] at H
 have c23b0 : decide (8 < (l1.length : Int)) = false:=decide_eq_false c23
 have c23b1 : decide (8 < l1.length) = false:=decide_eq_false (by omega)
 clear c23
 by_cases c28 : ((x6_1 ++ ((⟨#[41]⟩ : ByteArray) ++ t139)).size : Int) > 64
 · rw [if_pos c28] at H
   have c28b0 : decide (64 < ((x6_1 ++ ((⟨#[41]⟩ : ByteArray) ++ t139)).size : Int)) = true:=decide_eq_true c28
   have c28b1 : decide (64 < (x6_1 ++ ((⟨#[41]⟩ : ByteArray) ++ t139)).size) = true:=decide_eq_true (by omega)
   try have c28b1s : decide (64 < (x6_1.size + (1 + t139.size))) = true:=(by have h_:=c28b1;simp only [ByteArray.size_append] at h_;exact h_)
   try have c28b2s : decide (64 < ((x6_1.size : Int) + (1 + (t139.size : Int)))) = true:=decide_eq_true (by have h_:=of_decide_eq_true c28b1s;omega)
   clear c28
   simp only [Option.some.injEq,Prod.mk.injEq] at H
   obtain ⟨rfl,rfl⟩:=H
   have hcz29_0 : wr.cell? ⟨gb132,0,none⟩ = some (.int .i64 a0_0):=(blk_cell BK132.out 0).trans rfl
   have hcz29_1 : wr.cell? ⟨gb132,1,none⟩ = some (.string a0_1):=(blk_cell BK132.out 1).trans rfl
   have hfz29_0:=blk_frozen BK132.out 0
   have hfz29_1:=blk_frozen BK132.out 1
   go_wp2_with (first|((with_reducible refine gate_callee (f:=109) rfl ?_);refine goesL_ (some 38) rfl rfl Tryz.func109 (by kernel_rfl) rfl #[.agg #[.int .i64 a0_0,.string a0_1]] rfl eA ?_;(with_reducible refine (sr06_Right.calls k1 a0_0 a0_1 true _ A18.out).mono ?_);rintro e w30 ⟨rfl,hb⟩;refine ⟨_,rfl,?_⟩;replace BK132:=KN BK132 hb;replace HB:=aq (below_step bH hb);(try clear hb);(try clear hb2);(try clear hk);(try clear hi);have hcz31_0 : w30.cell? ⟨gb132,0,none⟩ = some (.int .i64 a0_0):=(blk_cell BK132.out 0).trans rfl;have hcz31_1 : w30.cell? ⟨gb132,1,none⟩ = some (.string a0_1):=(blk_cell BK132.out 1).trans rfl;have hfz31_0:=blk_frozen BK132.out 0;have hfz31_1:=blk_frozen BK132.out 1)|((with_reducible refine gate_callee (f:=110) rfl ?_);refine goesL_ (some 42) rfl rfl Tryz.func110 (by kernel_rfl) rfl #[.agg #[.int .i64 a0_0,.string a0_1]] rfl eA ?_;(with_reducible refine (sr06_Text.calls k1 a0_0 a0_1 t139 _ A20.out).mono ?_);rintro e w32 ⟨rfl,hb⟩;refine ⟨_,rfl,?_⟩;replace BK132:=KN BK132 hb;replace HB:=aq (below_step bH hb);(try clear hb);(try clear hb2);(try clear hk);(try clear hi)))
   go_ret2
   exact ⟨eR,bH⟩
 rw [if_neg c28] at H
 have c28b0 : decide (64 < ((x6_1 ++ ((⟨#[41]⟩ : ByteArray) ++ t139)).size : Int)) = false:=decide_eq_false c28
 have c28b1 : decide (64 < (x6_1 ++ ((⟨#[41]⟩ : ByteArray) ++ t139)).size) = false:=decide_eq_false (by omega)
 try have c28b1s : decide (64 < (x6_1.size + (1 + t139.size))) = false:=(by have h_:=c28b1;simp only [ByteArray.size_append] at h_;exact h_)
 try have c28b2s : decide (64 < ((x6_1.size : Int) + (1 + (t139.size : Int)))) = false:=decide_eq_false (by have h_:=of_decide_eq_false c28b1s;omega)
 clear c28
 simp only [Option.some.injEq,Prod.mk.injEq] at H
 obtain ⟨rfl,rfl⟩:=H
 have hcz33_0 : wr.cell? ⟨gb132,0,none⟩ = some (.int .i64 a0_0):=(blk_cell BK132.out 0).trans rfl
 have hcz33_1 : wr.cell? ⟨gb132,1,none⟩ = some (.string a0_1):=(blk_cell BK132.out 1).trans rfl
 have hfz33_0:=blk_frozen BK132.out 0
 have hfz33_1:=blk_frozen BK132.out 1
 go_wp2_with (first|((with_reducible refine gate_callee (f:=109) rfl ?_);refine goesL_ (some 38) rfl rfl Tryz.func109 (by kernel_rfl) rfl #[.agg #[.int .i64 a0_0,.string a0_1]] rfl eA ?_;(with_reducible refine (sr06_Right.calls k1 a0_0 a0_1 true _ A18.out).mono ?_);rintro e w34 ⟨rfl,hb⟩;refine ⟨_,rfl,?_⟩;replace BK132:=KN BK132 hb;replace HB:=aq (below_step bH hb);(try clear hb);(try clear hb2);(try clear hk);(try clear hi);have hcz35_0 : w34.cell? ⟨gb132,0,none⟩ = some (.int .i64 a0_0):=(blk_cell BK132.out 0).trans rfl;have hcz35_1 : w34.cell? ⟨gb132,1,none⟩ = some (.string a0_1):=(blk_cell BK132.out 1).trans rfl;have hfz35_0:=blk_frozen BK132.out 0;have hfz35_1:=blk_frozen BK132.out 1)|((with_reducible refine gate_callee (f:=110) rfl ?_);refine goesL_ (some 42) rfl rfl Tryz.func110 (by kernel_rfl) rfl #[.agg #[.int .i64 a0_0,.string a0_1]] rfl eA ?_;(with_reducible refine (sr06_Text.calls k1 a0_0 a0_1 t139 _ A20.out).mono ?_);rintro e w36 ⟨rfl,hb⟩;refine ⟨_,rfl,?_⟩;replace BK132:=KN BK132 hb;replace HB:=aq (below_step bH hb);(try clear hb);(try clear hb2);(try clear hk);(try clear hi)))
 go_ret2
 exact ⟨eR,bH⟩
def sr06_Renamed.l0 : Nat → List (S23) → List (S102) → List (S102) → Int → Int → ByteArray → Option (ByteArray)
  | 0,_,_,_,_,_,_ => none
  | k + 1,x1,x5,x8,x9,x147000,x147001 => if x9 < (x5.length : Int) then (if 0 ≤ x9 then ((sr06_RenamedType.f k ((rd_T102 x5 x9).f0) ((rd_T102 x5 x9).f1) x1).bind fun bt148 => (if x8.length < 5864062014805 then (sr06_Renamed.l0 k x1 x5 (x8 ++ [(⟨bt148.1,bt148.2⟩ : S102)]) (wrap64 (x9 + 1)) x147000 x147001) else (none))) else (none)) else ((sr06_RenamedType.f k x147000 x147001 x1).bind fun bt153 => ((sr06_Desc.f k bt153.1 bt153.2 x8).bind fun bt155 => (some bt155.1)))
def sr06_Renamed.f (k : Nat) (a0 : ByteArray) (l1 : List (S23)) : Option (ByteArray) := (sr06_Split.f k a0).bind fun bt140 => (if bt140.2.2.2 = 0 then (sr06_Renamed.l0 k l1 bt140.1 ([] : List (S102)) 0 bt140.2.1 bt140.2.2.1) else (some (⟨#[]⟩ : ByteArray)))
theorem sr06_Renamed.calls (k : Nat) (a0 : ByteArray) (A1 : Option Addr) (c1 : Nat) (l1 : List (S23)) (r : ByteArray) (w : World) (hr1 : Kd.C k23 w A1 l1.length l1) (hc1 : l1.length ≤ c1) (h : sr06_Renamed.f k a0 l1 = some r) :
    Calls Tryz.prog 61 #[.string a0,.slice A1 l1.length c1] w fun e w' => e = .returned (.string r) ∧ Below w.heap.size w w':=by
 have hu102:=Tryz.underlying102
 have HR1:=aq hr1
 have HC1:=aq hc1
 clear hr1 hc1
 have HB:=aq (Below.refl w.heap.size w)
 have H : ((sr06_Split.f k a0).bind fun bt140 => (if bt140.2.2.2 = 0 then (sr06_Renamed.l0 k l1 bt140.1 ([] : List (S102)) 0 bt140.2.1 bt140.2.2.1) else (some (⟨#[]⟩ : ByteArray)))) = some r:=h
 clear h
 replace H:=Option.bind_eq_some_iff.mp H
 obtain ⟨⟨t140,t143,t144,t145⟩,A30,H⟩:=H
 replace H : (if t145 = 0 then (sr06_Renamed.l0 k l1 t140 ([] : List (S102)) 0 t143 t144) else (some (⟨#[]⟩ : ByteArray))) = some r:=H
 have A3:=aq A30
 clear A30
 by_cases c4 : t145 = 0
 rotate_left
 · rw [if_neg c4] at H
   have c4b0 : (t145 == 0) = false:=beq_eq_false_iff_ne.mpr c4
   have c4b1 : (t145 != 0) = true:=bne_iff_ne.mpr c4
   obtain rfl:=Option.some.inj H
   go_enter Tryz.func61,Tryz.ntmps61
   go_wp2_with (first|((with_reducible refine gate_callee (f:=83) rfl ?_);refine goesL_ (some 14) rfl rfl Tryz.func83 (by kernel_rfl) rfl #[.string a0] rfl eA ?_;(with_reducible refine (sr06_Split.calls k a0 t140 t143 t144 t145 _ A3.out).mono ?_);rintro e w22 ⟨v141,rfl,ho0,hb⟩;refine ⟨_,rfl,?_⟩;have HO142:=aq (Kd.R_lower ho0 (below_size bH));replace HB:=aq (below_step bH hb);(try clear hb);(try clear hb2);(try clear hk);(try clear hi);(try clear ho0))|((with_reducible refine gate_dst (N:=6) rfl ?_);refine box_event rfl (N:=6) rfl (cs:=#[.int .i64 0,.string (⟨#[]⟩ : ByteArray)]) (t:=102) gS ?_;intro gb146 hg w23 hbox hb;have BK146:=aq (hbox);have GE146:=aq ((GN hg : w.heap.size ≤ gb146));replace HO142:=aq (Kd.R_below (Kd.R_elderB (RU HO142.out) gb146 (Nat.le_of_eq hg.symm)) hb);replace HB:=aq (below_step bH hb);clear hb hbox hg;have hcz24_0 : w23.cell? ⟨gb146,0,none⟩ = some (.int .i64 0):=(blk_cell BK146.out 0).trans rfl;have hcz24_1 : w23.cell? ⟨gb146,1,none⟩ = some (.string (⟨#[]⟩ : ByteArray)):=(blk_cell BK146.out 1).trans rfl;have hfz24_0:=blk_frozen BK146.out 0;have hfz24_1:=blk_frozen BK146.out 1))
   go_ret
   exact ⟨eR,bH⟩
 rw [if_pos c4] at H
 have c4b0 : (t145 == 0) = true:=beq_iff_eq.mpr c4
 have c4b1 : (t145 != 0) = false:=bne_eq_false_iff_eq.mpr c4
 clear c4
 have H':=aq H
 clear H
 go_enter Tryz.func61,Tryz.ntmps61
 go_wp2_with (first|((with_reducible refine gate_callee (f:=83) rfl ?_);refine goesL_ (some 14) rfl rfl Tryz.func83 (by kernel_rfl) rfl #[.string a0] rfl eA ?_;(with_reducible refine (sr06_Split.calls k a0 t140 t143 t144 t145 _ A3.out).mono ?_);rintro e w5 ⟨v141,rfl,ho0,hb⟩;refine ⟨_,rfl,?_⟩;have HO142:=aq (Kd.R_lower ho0 (below_size bH));replace HB:=aq (below_step bH hb);(try clear hb);(try clear hb2);(try clear hk);(try clear hi);(try clear ho0))|((with_reducible refine gate_dst (N:=6) rfl ?_);refine box_event rfl (N:=6) rfl (cs:=#[.int .i64 0,.string (⟨#[]⟩ : ByteArray)]) (t:=102) gS ?_;intro gb146 hg w6 hbox hb;have BK146:=aq (hbox);have GE146:=aq ((GN hg : w.heap.size ≤ gb146));replace HO142:=aq (Kd.R_below (Kd.R_elderB (RU HO142.out) gb146 (Nat.le_of_eq hg.symm)) hb);replace HB:=aq (below_step bH hb);clear hb hbox hg;have hcz7_0 : w6.cell? ⟨gb146,0,none⟩ = some (.int .i64 0):=(blk_cell BK146.out 0).trans rfl;have hcz7_1 : w6.cell? ⟨gb146,1,none⟩ = some (.string (⟨#[]⟩ : ByteArray)):=(blk_cell BK146.out 1).trans rfl;have hfz7_0:=blk_frozen BK146.out 0;have hfz7_1:=blk_frozen BK146.out 1))
 go_loopg [8,9] k (fun kq v8 v9 w' => ∃ (x8_1 : List (S102)) (x9_1 : Int),v9 = .int .i64 x9_1 ∧ Aside0 (sr06_Renamed.l0 kq l1 t140 x8_1 x9_1 t143 t144 = some r) ∧ Aside0 (kq ≤ k) ∧ Aside0 (Kd.R k102 102 w' w.heap.size (fun k_ => some k_ ≠ (v8 : Value).ownBlock ∧ k_ ≠ gb146) v141 t140) ∧ Aside0 (Kd.R k102 102 w' w.heap.size (fun k_ => some k_ ≠ (v141 : Value).ownBlock ∧ k_ ≠ gb146) v8 x8_1) ∧ Aside0 (w'.heap[gb146]? = some (.cells #[.int .i64 t143,.string t144] 102 (0,0))) ∧ Aside0 (Below w.heap.size w w'))
 case atStart => exact ⟨(([] : List (S102))),(0),eS,H',⟨Nat.le_refl _⟩,⟨by (with_reducible repeat (first|apply Kd.R_alloc|apply Kd.R_drewN|apply Kd.R_drew));exact Kd.R_mono (RF gb146 1 (RF gb146 0 (Kd.R_mono HO142.out (fun k_ hk => (⟨hk,hk.2⟩ : _ ∧ k_ ≠ gb146))) (.int .i64 t143)) (.string t144)) (fun _ hk => ⟨(by simp [Value.ownBlock]),hk.1.2⟩)⟩,⟨by first|exact Kd.R_nil _ _ _ _ _|exact Kd.N_nil _ _ _ _ _|exact Kd.V_nil _ _ _ _ _|exact Kd.Q_nil _ _ _ _ _|exact Kd.S_nil _ _ _ _ _⟩,⟨by refine KU ?_;refine blk_put (cs:=#[.int .i64 t143,.string (⟨#[]⟩ : ByteArray)]) ?_ 1 _ rfl;refine KU ?_;refine blk_put (cs:=#[.int .i64 0,.string (⟨#[]⟩ : ByteArray)]) ?_ 0 _ rfl;refine KU ?_;exact BK146.out⟩,⟨bH⟩⟩
 case round =>
 clear H'
 (try clear c1);(try clear c4);(try clear c4b0);(try clear c4b1);(try clear hcz7_0);(try clear hcz7_1);(try clear hfz7_0);(try clear hfz7_1)
 obtain ⟨x8_1,x9_1,rfl,HA,HK1,HO_5,HO_8,BK146,HB⟩:=hrel
 cases gk with
 | zero => exact absurd HA.out (by simp [sr06_Renamed.l0])
 | succ k1 =>
 have H:=HA.out
 clear HA
 simp only [sr06_Renamed.l0] at H
 by_cases c8 : x9_1 < (t140.length : Int)
 rotate_left
 · rw [if_neg c8] at H
   have c8b0 : decide (x9_1 < (t140.length : Int)) = false:=decide_eq_false c8
   clear c8
   replace H:=Option.bind_eq_some_iff.mp H
   obtain ⟨⟨t153,t154⟩,A150,H⟩:=H
   replace H : ((sr06_Desc.f k1 t153 t154 x8_1).bind fun bt155 => (some bt155.1)) = some r:=H
   have A15:=aq A150
   clear A150
   replace H:=Option.bind_eq_some_iff.mp H
   obtain ⟨⟨t155,t156⟩,A160,H⟩:=H
   replace H : (some t155) = some r:=H
   have A16:=aq A160
   clear A160
   obtain rfl:=Option.some.inj H
   obtain ⟨Ao17,co17,eo17⟩:=Kd.R_slice HO_5.out
   subst eo17
   have hcz18_0 : wr.cell? ⟨gb146,0,none⟩ = some (.int .i64 t143):=(blk_cell BK146.out 0).trans rfl
   have hcz18_1 : wr.cell? ⟨gb146,1,none⟩ = some (.string t144):=(blk_cell BK146.out 1).trans rfl
   have hfz18_0:=blk_frozen BK146.out 0
   have hfz18_1:=blk_frozen BK146.out 1
   go_wp2_with (first|((with_reducible refine gate_callee (f:=84) rfl ?_);refine goesL_ (some 38) rfl rfl Tryz.func84 (by kernel_rfl) rfl #[.agg #[.int .i64 t143,.string t144],.slice A1 l1.length c1] rfl eA ?_;(with_reducible refine (sr06_RenamedType.calls k1 t143 t144 _ _ l1 t153 t154 _ ?side1 ?side2 A15.out).mono ?_);(case side1 => exact CU HR1);(case side2 => exact HC1.out);rintro e w19 ⟨rfl,hb⟩;refine ⟨_,rfl,?_⟩;replace HO_5:=RN HO_5 hb;replace HO_8:=RN HO_8 hb;replace BK146:=KN BK146 hb;replace HB:=aq (below_step bH hb);(try clear hb);(try clear hb2);(try clear hk);(try clear hi);obtain ⟨Ao20,co20,eo20⟩:=Kd.R_slice HO_8.out;subst eo20)|((with_reducible refine gate_callee (f:=85) rfl ?_);refine goesL_ (some 40) rfl rfl Tryz.func85 (by kernel_rfl) rfl #[.agg #[.int .i64 t153,.string t154],.slice Ao20 x8_1.length co20] rfl eA ?_;(with_reducible refine (sr06_Desc.calls k1 t153 t154 _ _ x8_1 t155 t156 _ ?side1 ?side2 A16.out).mono ?_);(case side1 => repeat (first|exact (Kd.R_reads' HO_8.out).2.2|(with_reducible refine Kd.C_alloc ?_ _)|(with_reducible refine Kd.C_drewN ?_ _)|(with_reducible refine Kd.C_drew ?_)));(case side2 => exact (Kd.R_reads' HO_8.out).2.1);rintro e w21 ⟨rfl,hb⟩;refine ⟨_,rfl,?_⟩;replace HO_5:=RN HO_5 hb;replace HO_8:=RN HO_8 hb;replace BK146:=KN BK146 hb;replace HB:=aq (below_step bH hb);(try clear hb);(try clear hb2);(try clear hk);(try clear hi)))
   go_ret
   exact ⟨eR,bH⟩
 rw [if_pos c8] at H
 have c8b0 : decide (x9_1 < (t140.length : Int)) = true:=decide_eq_true c8
 clear c8
 by_cases c9 : 0 ≤ x9_1
 rotate_left
 · rw [if_neg c9] at H
   exact absurd H (by simp)
 rw [if_pos c9] at H
 have c9b0 : decide (0 ≤ x9_1) = true:=decide_eq_true c9
 clear c9
 replace H:=Option.bind_eq_some_iff.mp H
 obtain ⟨⟨t148,t149⟩,A100,H⟩:=H
 replace H : (if x8_1.length < 5864062014805 then (sr06_Renamed.l0 k1 l1 t140 (x8_1 ++ [(⟨t148,t149⟩ : S102)]) (wrap64 (x9_1 + 1)) t143 t144) else (none)) = some r:=H
 have A10:=aq A100
 clear A100
 by_cases c11 : x8_1.length < 5864062014805
 rotate_left
 · rw [if_neg c11] at H
   exact absurd H (by simp)
 rw [if_pos c11] at H
 have LMc11:=aq c11
 clear c11
 obtain ⟨y150,hy150⟩ : ∃ y_ : List (S102),y_ = (x8_1 ++ [(⟨t148,t149⟩ : S102)]):=⟨_,rfl⟩
 replace H : (sr06_Renamed.l0 k1 l1 t140 y150 (wrap64 (x9_1 + 1)) t143 t144) = some r:=by first|(rw [hy150];with_reducible exact H)|(have H2_:=(Option.bind_some _ _).symm.trans H;rw [hy150];with_reducible exact H2_)|(have H2_:=(Option.bind_some _ _).symm.trans H;with_reducible exact H2_)|with_reducible exact H|(rw [hy150];exact H)|exact H
 have Ny150:=aq hy150
 clear hy150
 have H':=aq H
 clear H
 obtain ⟨Ao12,co12,eo12⟩:=Kd.R_slice HO_5.out
 subst eo12
 have p147 : 0 ≤ (x9_1 : Int):=of_decide_eq_true aS
 have q147 : x9_1 < (t140.length : Int):=of_decide_eq_true aS
 obtain ⟨ad147,e147,hx147_0,hx147_1⟩:=at_T102 (Kd.R_reads' HO_5.out).2.2 x9_1 p147 q147
 cases e147
 replace p147:=eq_true p147
 replace q147:=eq_true q147
 go_wp2_with (first|((with_reducible refine gate_callee (f:=84) rfl ?_);refine goesL_ (some 32) rfl rfl Tryz.func84 (by kernel_rfl) rfl #[.agg #[.int .i64 ((rd_T102 t140 x9_1).f0),.string ((rd_T102 t140 x9_1).f1)],.slice A1 l1.length c1] rfl eA ?_;(with_reducible refine (sr06_RenamedType.calls k1 ((rd_T102 t140 x9_1).f0) ((rd_T102 t140 x9_1).f1) _ _ l1 t148 t149 _ ?side1 ?side2 A10.out).mono ?_);(case side1 => exact CU HR1);(case side2 => exact HC1.out);rintro e w13 ⟨rfl,hb⟩;refine ⟨_,rfl,?_⟩;replace HO_5:=RN HO_5 hb;replace HO_8:=RN HO_8 hb;replace BK146:=KN BK146 hb;replace HB:=aq (below_step bH hb);(try clear hb);(try clear hb2);(try clear hk);(try clear hi))|((with_reducible refine gate_builtin (b:=.append) (xs:=#[.tmp 26,.tmp 33]) rfl ?_);at_builtin;refine Kd.R_append k102 (w0:=w) w.heap.size rfl (.tmp 26) (.tmp 33) 99 102 (.agg #[(.int .i64 0),(.string ⟨#[]⟩)]) 24 rfl Tryz.underlying99 info102 rfl (by decide) (by omega) u8 x8_1 (⟨t148,t149⟩ : S102) [.int .i64 t148,.string t149] (fun k_ => some k_ ≠ (.slice (some ad147) t140.length co12 : Value).ownBlock ∧ k_ ≠ gb146) (fun _ => False) rfl rfl ?aP (fun _ hk => hk.elim) ?aF ?aO ?aB ?aS ?aL ?_;(case aP => exact k102_mkM _ _ _ (⟨t148,t149⟩ : S102));(case aB => exact bH);(case aF => exact (fun k_ hk => ⟨Kd.fresh' (Kd.R_lt (RU HO_5.out)) k_ hk,Kd.freshB (g:=gb146) (o:=.cells #[.int .i64 t143,.string t144] 102 (0,0)) (KU BK146.out) k_ hk⟩));(case aO => exact (RU HO_8.out));(case aS => exact (below_size bH));(case aL => have:=LMc11.out;omega);intro v151 w14 ho hb hg hat;rw [← Ny150.out] at ho;have n0_:=aq (Kd.R_after (ok:=(fun k_ => k_ ≠ gb146)) (by (with_reducible repeat (first|apply Kd.R_alloc|apply Kd.R_drewN|apply Kd.R_drew));exact Kd.R_mono HO_5.out (fun _ hk => ⟨hk.2,hk.1⟩)) hg hat);have n1_:=aq (blk_grown (g:=gb146) (o:=.cells #[.int .i64 t143,.string t144] 102 (0,0)) (KU BK146.out) hg (Kd.R_away HO_8.out (fun _ hk => hk.2)));have n2_:=aq (hb);have n3_:=aq (ho);clear HO_5;clear BK146;clear HB;clear HO_8;have HO_5:=n0_;have BK146:=n1_;have HB:=n2_;have HO152:=n3_;clear n0_ n1_ n2_ n3_;clear ho hb hg hat))
 go_roundg k1
 case measure => have:=HK1.out;omega
 case rel => exact ⟨(y150),(wrap64 (x9_1 + 1)),eS,H',⟨by have:=HK1.out;omega⟩,⟨by (with_reducible repeat (first|apply Kd.R_alloc|apply Kd.R_drewN|apply Kd.R_drew));exact Kd.R_mono HO_5.out (fun _ hk => ⟨hk.2,hk.1⟩)⟩,⟨by (with_reducible repeat (first|apply Kd.R_alloc|apply Kd.R_drewN|apply Kd.R_drew));exact HO152.out⟩,⟨KU BK146.out⟩,⟨bH⟩⟩
def sr06_Classes.l0 : Nat → List (S102) → List ByteArray → Int → Option (List ByteArray)
  | 0,_,_,_ => none
  | k + 1,x6,x7,x8 => if x8 < (x6.length : Int) then (if 0 ≤ x8 then (if ((rd_T102 x6 x8).f1).toList = ([] : List UInt8) then (sr06_Classes.l0 k x6 x7 (wrap64 (x8 + 1))) else (if x7.length < 8796093022208 then (sr06_Classes.l0 k x6 (x7 ++ [(rd_T102 x6 x8).f1]) (wrap64 (x8 + 1))) else (none))) else (none)) else (some x7)
def sr06_Classes.f (k : Nat) (a0 : ByteArray) : Option (List ByteArray) := (sr06_Split.f k a0).bind fun bt157 => (if bt157.2.2.2 = 0 then (if ([] : List (S102)).length + bt157.1.length < 5864062014805 then ((some (([] : List (S102)) ++ bt157.1 : List (S102))).bind fun y164 => (if y164.length < 5864062014805 then (sr06_Classes.l0 k (y164 ++ [(⟨bt157.2.1, bt157.2.2.1⟩ : S102)]) ([] : List ByteArray) 0) else (none))) else (none)) else (some ([] : List ByteArray)))
theorem sr06_Classes.calls (k : Nat) (a0 : ByteArray) (r : List ByteArray) (w : World) (h : sr06_Classes.f k a0 = some r) :
    Calls Tryz.prog 63 #[.string a0] w fun e w' => ∃ v0_ : Value,e = .returned (v0_) ∧ Kd.R Kd.string 9 w' w.heap.size (fun _ => True) v0_ r ∧ Below w.heap.size w w':=by
 have hu102:=Tryz.underlying102
 have HB:=aq (Below.refl w.heap.size w)
 have H : ((sr06_Split.f k a0).bind fun bt157 => (if bt157.2.2.2 = 0 then (if ([] : List (S102)).length + bt157.1.length < 5864062014805 then ((some (([] : List (S102)) ++ bt157.1 : List (S102))).bind fun y164 => (if y164.length < 5864062014805 then (sr06_Classes.l0 k (y164 ++ [(⟨bt157.2.1,bt157.2.2.1⟩ : S102)]) ([] : List ByteArray) 0) else (none))) else (none)) else (some ([] : List ByteArray)))) = some r:=h
 clear h
 replace H:=Option.bind_eq_some_iff.mp H
 obtain ⟨⟨t157,t160,t161,t162⟩,A20,H⟩:=H
 replace H : (if t162 = 0 then (if ([] : List (S102)).length + t157.length < 5864062014805 then ((some (([] : List (S102)) ++ t157 : List (S102))).bind fun y164 => (if y164.length < 5864062014805 then (sr06_Classes.l0 k (y164 ++ [(⟨t160,t161⟩ : S102)]) ([] : List ByteArray) 0) else (none))) else (none)) else (some ([] : List ByteArray))) = some r:=H
 have A2:=aq A20
 clear A20
 by_cases c3 : t162 = 0
 rotate_left
 · rw [if_neg c3] at H
   have c3b0 : (t162 == 0) = false:=beq_eq_false_iff_ne.mpr c3
   have c3b1 : (t162 != 0) = true:=bne_iff_ne.mpr c3
   obtain rfl:=Option.some.inj H
   go_enter Tryz.func63,Tryz.ntmps63
   go_wp2_with (first|((with_reducible refine gate_callee (f:=83) rfl ?_);refine goesL_ (some 11) rfl rfl Tryz.func83 (by kernel_rfl) rfl #[.string a0] rfl eA ?_;(with_reducible refine (sr06_Split.calls k a0 t157 t160 t161 t162 _ A2.out).mono ?_);rintro e w21 ⟨v158,rfl,ho0,hb⟩;refine ⟨_,rfl,?_⟩;have HO159:=aq (Kd.R_lower ho0 (below_size bH));replace HB:=aq (below_step bH hb);(try clear hb);(try clear hb2);(try clear hk);(try clear hi);(try clear ho0))|((with_reducible refine gate_dst (N:=4) rfl ?_);refine box_event rfl (N:=4) rfl (cs:=#[.int .i64 0,.string (⟨#[]⟩ : ByteArray)]) (t:=102) gS ?_;intro gb163 hg w22 hbox hb;have BK163:=aq (hbox);have GE163:=aq ((GN hg : w.heap.size ≤ gb163));replace HO159:=aq (Kd.R_below (Kd.R_elderB (RU HO159.out) gb163 (Nat.le_of_eq hg.symm)) hb);replace HB:=aq (below_step bH hb);clear hb hbox hg;have hcz23_0 : w22.cell? ⟨gb163,0,none⟩ = some (.int .i64 0):=(blk_cell BK163.out 0).trans rfl;have hcz23_1 : w22.cell? ⟨gb163,1,none⟩ = some (.string (⟨#[]⟩ : ByteArray)):=(blk_cell BK163.out 1).trans rfl;have hfz23_0:=blk_frozen BK163.out 0;have hfz23_1:=blk_frozen BK163.out 1))
   go_ret
   exact ⟨_,eR,by first|exact Kd.R_nil _ _ _ _ _|exact Kd.N_nil _ _ _ _ _|exact Kd.V_nil _ _ _ _ _|exact Kd.Q_nil _ _ _ _ _|exact Kd.S_nil _ _ _ _ _,bH⟩
 rw [if_pos c3] at H
 have c3b0 : (t162 == 0) = true:=beq_iff_eq.mpr c3
 have c3b1 : (t162 != 0) = false:=bne_eq_false_iff_eq.mpr c3
 clear c3
 by_cases c4 : ([] : List (S102)).length + t157.length < 5864062014805
 rotate_left
 · rw [if_neg c4] at H
   exact absurd H (by simp)
 rw [if_pos c4] at H
 have LMc4:=aq c4
 clear c4
 obtain ⟨y164,hy164⟩ : ∃ y_ : List (S102),y_ = (([] : List (S102)) ++ t157):=⟨_,rfl⟩
 replace H : (if y164.length < 5864062014805 then (sr06_Classes.l0 k (y164 ++ [(⟨t160,t161⟩ : S102)]) ([] : List ByteArray) 0) else (none)) = some r:=by first|(rw [hy164];with_reducible exact H)|(have H2_:=(Option.bind_some _ _).symm.trans H;rw [hy164];with_reducible exact H2_)|(have H2_:=(Option.bind_some _ _).symm.trans H;with_reducible exact H2_)|with_reducible exact H|(rw [hy164];exact H)|exact H
 have Ny164:=aq hy164
 clear hy164
 by_cases c5 : y164.length < 5864062014805
 rotate_left
 · rw [if_neg c5] at H
   exact absurd H (by simp)
 rw [if_pos c5] at H
 have LMc5:=aq c5
 clear c5
 obtain ⟨y167,hy167⟩ : ∃ y_ : List (S102),y_ = (y164 ++ [(⟨t160,t161⟩ : S102)]):=⟨_,rfl⟩
 replace H : (sr06_Classes.l0 k y167 ([] : List ByteArray) 0) = some r:=by first|(rw [hy167];with_reducible exact H)|(have H2_:=(Option.bind_some _ _).symm.trans H;rw [hy167];with_reducible exact H2_)|(have H2_:=(Option.bind_some _ _).symm.trans H;with_reducible exact H2_)|with_reducible exact H|(rw [hy167];exact H)|exact H
 have Ny167:=aq hy167
 clear hy167
 have H':=aq H
 clear H
 go_enter Tryz.func63,Tryz.ntmps63
 go_wp2_with (first|((with_reducible refine gate_callee (f:=83) rfl ?_);refine goesL_ (some 11) rfl rfl Tryz.func83 (by kernel_rfl) rfl #[.string a0] rfl eA ?_;(with_reducible refine (sr06_Split.calls k a0 t157 t160 t161 t162 _ A2.out).mono ?_);rintro e w6 ⟨v158,rfl,ho0,hb⟩;refine ⟨_,rfl,?_⟩;have HO159:=aq (Kd.R_lower ho0 (below_size bH));replace HB:=aq (below_step bH hb);(try clear hb);(try clear hb2);(try clear hk);(try clear hi);(try clear ho0))|((with_reducible refine gate_dst (N:=4) rfl ?_);refine box_event rfl (N:=4) rfl (cs:=#[.int .i64 0,.string (⟨#[]⟩ : ByteArray)]) (t:=102) gS ?_;intro gb163 hg w7 hbox hb;have BK163:=aq (hbox);have GE163:=aq ((GN hg : w.heap.size ≤ gb163));replace HO159:=aq (Kd.R_below (Kd.R_elderB (RU HO159.out) gb163 (Nat.le_of_eq hg.symm)) hb);replace HB:=aq (below_step bH hb);clear hb hbox hg;have hcz8_0 : w7.cell? ⟨gb163,0,none⟩ = some (.int .i64 0):=(blk_cell BK163.out 0).trans rfl;have hcz8_1 : w7.cell? ⟨gb163,1,none⟩ = some (.string (⟨#[]⟩ : ByteArray)):=(blk_cell BK163.out 1).trans rfl;have hfz8_0:=blk_frozen BK163.out 0;have hfz8_1:=blk_frozen BK163.out 1;obtain ⟨Ao10,co10,eo10⟩:=Kd.R_slice HO159.out;subst eo10)|((with_reducible refine gate_builtin (b:=.append) (xs:=#[.tmp 17,.tmp 18]) rfl ?_);at_builtin;refine Kd.R_append_rows k102 (w0:=w) w.heap.size rfl (.tmp 17) (.tmp 18) 99 102 (.agg #[(.int .i64 0),(.string ⟨#[]⟩)]) 24 rfl Tryz.underlying99 info102 rfl (by decide) (by omega) (.slice none 0 0) ([] : List (S102)) t157 _ _ _ (fun k_ => some k_ ≠ (.slice Ao10 t157.length co10 : Value).ownBlock ∧ k_ ≠ gb163) (fun _ => False) rfl rfl ?aO ?aR (fun _ _ h => h) (fun _ h => h.elim) ?aF ?aB ?aS ?aL ?_;(case aR => refine (Kd.R_reads' (e:=102) (base:=w.heap.size) (ok:=fun k_ => (True ∧ k_ ≠ gb163)) (n:=t157.length) (c:=co10) ?_).2.2;exact (by (with_reducible repeat (first|apply Kd.R_alloc|apply Kd.R_drewN|apply Kd.R_drew));exact (Kd.R_mono (RF gb163 1 (RF gb163 0 (Kd.R_mono HO159.out (fun k_ hk => (⟨hk,hk.2⟩ : _ ∧ k_ ≠ gb163))) (.int .i64 t160)) (.string t161)) (fun _ h_ => h_.1))));(case aB => exact bH);(case aF => exact (fun k_ hk => ⟨Kd.fresh' (Kd.R_lt (by (with_reducible repeat (first|apply Kd.R_alloc|apply Kd.R_drewN|apply Kd.R_drew));exact (Kd.R_mono (RF gb163 1 (RF gb163 0 (Kd.R_mono HO159.out (fun k_ hk => (⟨hk,hk.2⟩ : _ ∧ k_ ≠ gb163))) (.int .i64 t160)) (.string t161)) (fun _ h_ => h_.1)))) k_ hk,Kd.freshB (g:=gb163) (o:=.cells #[.int .i64 t160,.string t161] 102 (0,0)) (by refine KU ?_;refine blk_put (cs:=#[.int .i64 t160,.string (⟨#[]⟩ : ByteArray)]) ?_ 1 _ rfl;refine KU ?_;refine blk_put (cs:=#[.int .i64 0,.string (⟨#[]⟩ : ByteArray)]) ?_ 0 _ rfl;refine KU ?_;exact BK163.out) k_ hk⟩));(case aO => exact ((Kd.R_nil _ _ _ _ (fun k_ => some k_ ≠ (.slice Ao10 t157.length co10 : Value).ownBlock ∧ k_ ≠ gb163))));(case aS => exact (below_size bH));(case aL => have:=LMc4.out;omega);intro v165 w9 ho hb hg hat;rw [← Ny164.out] at ho;have HO166:=aq (ho);replace HO159:=aq (Kd.R_after (Kd.R_apart_nil (by (with_reducible repeat (first|apply Kd.R_alloc|apply Kd.R_drewN|apply Kd.R_drew));exact (Kd.R_mono (RF gb163 1 (RF gb163 0 (Kd.R_mono HO159.out (fun k_ hk => (⟨hk,hk.2⟩ : _ ∧ k_ ≠ gb163))) (.int .i64 t160)) (.string t161)) (fun _ h_ => h_.1)))) hg hat);replace BK163:=aq (blk_grown (g:=gb163) (o:=.cells #[.int .i64 t160,.string t161] 102 (0,0)) (by refine KU ?_;refine blk_put (cs:=#[.int .i64 t160,.string (⟨#[]⟩ : ByteArray)]) ?_ 1 _ rfl;refine KU ?_;refine blk_put (cs:=#[.int .i64 0,.string (⟨#[]⟩ : ByteArray)]) ?_ 0 _ rfl;refine KU ?_;exact BK163.out) hg (by simp [Value.ownBlock]));replace HB:=aq (hb);clear ho hb hg hat;have hcz11_0 : w9.cell? ⟨gb163,0,none⟩ = some (.int .i64 t160):=(blk_cell BK163.out 0).trans rfl;have hcz11_1 : w9.cell? ⟨gb163,1,none⟩ = some (.string t161):=(blk_cell BK163.out 1).trans rfl;have hfz11_0:=blk_frozen BK163.out 0;have hfz11_1:=blk_frozen BK163.out 1)|((with_reducible refine gate_builtin (b:=.append) (xs:=#[.tmp 20,.tmp 22]) rfl ?_);at_builtin;refine Kd.R_append k102 (w0:=w) w.heap.size rfl (.tmp 20) (.tmp 22) 99 102 (.agg #[(.int .i64 0),(.string ⟨#[]⟩)]) 24 rfl Tryz.underlying99 info102 rfl (by decide) (by omega) v165 y164 (⟨t160,t161⟩ : S102) [.int .i64 t160,.string t161] (fun k_ => some k_ ≠ (.slice Ao10 t157.length co10 : Value).ownBlock ∧ k_ ≠ gb163) (fun _ => False) rfl rfl ?aP (fun _ hk => hk.elim) ?aF ?aO ?aB ?aS ?aL ?_;(case aP => exact k102_mkM _ _ _ (⟨t160,t161⟩ : S102));(case aB => exact bH);(case aF => exact (fun k_ hk => ⟨Kd.fresh' (Kd.R_lt (RU HO159.out)) k_ hk,Kd.freshB (g:=gb163) (o:=.cells #[.int .i64 t160,.string t161] 102 (0,0)) (KU BK163.out) k_ hk⟩));(case aO => exact (RU HO166.out));(case aS => exact (below_size bH));(case aL => have:=LMc5.out;omega);intro v168 w12 ho hb hg hat;rw [← Ny167.out] at ho;have n0_:=aq (Kd.R_after (ok:=(fun k_ => k_ ≠ gb163)) (by (with_reducible repeat (first|apply Kd.R_alloc|apply Kd.R_drewN|apply Kd.R_drew));exact Kd.R_mono HO159.out (fun _ hk => ⟨hk.1.2,hk.2⟩)) hg hat);have n1_:=aq (blk_grown (g:=gb163) (o:=.cells #[.int .i64 t160,.string t161] 102 (0,0)) (KU BK163.out) hg (Kd.R_away HO166.out (fun _ hk => hk.2)));have n2_:=aq (hb);have n3_:=aq (ho);clear HO159;clear BK163;clear HB;clear HO166;have HO159:=n0_;have BK163:=n1_;have HB:=n2_;have HO169:=n3_;clear n0_ n1_ n2_ n3_;clear ho hb hg hat))
 go_loopg [7,8] k (fun kq v7 v8 w' => ∃ (x7_1 : List ByteArray) (x8_1 : Int),v8 = .int .i64 x8_1 ∧ Aside0 (sr06_Classes.l0 kq y167 x7_1 x8_1 = some r) ∧ Aside0 (kq ≤ k) ∧ Aside0 (Kd.R k102 102 w' w.heap.size (fun k_ => k_ ≠ gb163) v168 y167) ∧ Aside0 (Kd.R Kd.string 9 w' w.heap.size (fun _ => True) v7 x7_1) ∧ Aside0 (w'.heap[gb163]? = some (.cells #[.int .i64 t160,.string t161] 102 (0,0))) ∧ Aside0 (Below w.heap.size w w'))
 case atStart => exact ⟨(([] : List ByteArray)),(0),eS,H',⟨Nat.le_refl _⟩,⟨by (with_reducible repeat (first|apply Kd.R_alloc|apply Kd.R_drewN|apply Kd.R_drew));exact Kd.R_mono HO169.out (fun _ hk => hk.2)⟩,⟨by first|exact Kd.R_nil _ _ _ _ _|exact Kd.N_nil _ _ _ _ _|exact Kd.V_nil _ _ _ _ _|exact Kd.Q_nil _ _ _ _ _|exact Kd.S_nil _ _ _ _ _⟩,⟨KU BK163.out⟩,⟨bH⟩⟩
 case round =>
 clear H'
 (try clear c3);(try clear c3b0);(try clear c3b1);(try clear c4);(try clear c5);(try clear hcz11_0);(try clear hcz11_1);(try clear hcz8_0);(try clear hcz8_1);(try clear hfz11_0);(try clear hfz11_1);(try clear hfz8_0);(try clear hfz8_1)
 obtain ⟨x7_1,x8_1,rfl,HA,HK1,HO_6,HO_7,BK163,HB⟩:=hrel
 cases gk with
 | zero => exact absurd HA.out (by simp [sr06_Classes.l0])
 | succ k1 =>
 have H:=HA.out
 clear HA
 simp only [sr06_Classes.l0] at H
 by_cases c13 : x8_1 < (y167.length : Int)
 rotate_left
 · rw [if_neg c13] at H
   have c13b0 : decide (x8_1 < (y167.length : Int)) = false:=decide_eq_false c13
   clear c13
   obtain rfl:=Option.some.inj H
   obtain ⟨Ao20,co20,eo20⟩:=Kd.R_slice HO_6.out
   subst eo20
   go_wp2
   go_ret
   exact ⟨_,eR,by (with_reducible repeat (first|apply Kd.R_alloc|apply Kd.R_drewN|apply Kd.R_drew));exact HO_7.out,bH⟩
 rw [if_pos c13] at H
 have c13b0 : decide (x8_1 < (y167.length : Int)) = true:=decide_eq_true c13
 clear c13
 by_cases c14 : 0 ≤ x8_1
 rotate_left
 · rw [if_neg c14] at H
   exact absurd H (by simp)
 rw [if_pos c14] at H
 have c14b0 : decide (0 ≤ x8_1) = true:=decide_eq_true c14
 clear c14
 by_cases c15 : ((rd_T102 y167 x8_1).f1).toList = ([] : List UInt8)
 · rw [if_pos c15] at H
   have c15b0 : (((rd_T102 y167 x8_1).f1).toList == ([] : List UInt8)) = true:=beq_iff_eq.mpr c15
   have c15b1 : (((rd_T102 y167 x8_1).f1).toList != ([] : List UInt8)) = false:=bne_eq_false_iff_eq.mpr c15
   clear c15
   have H':=aq H
   clear H
   obtain ⟨Ao16,co16,eo16⟩:=Kd.R_slice HO_6.out
   subst eo16
   have p170 : 0 ≤ (x8_1 : Int):=of_decide_eq_true aS
   have q170 : x8_1 < (y167.length : Int):=of_decide_eq_true aS
   obtain ⟨ad170,e170,hx170_0,hx170_1⟩:=at_T102 (Kd.R_reads' HO_6.out).2.2 x8_1 p170 q170
   cases e170
   replace p170:=eq_true p170
   replace q170:=eq_true q170
   go_wp2
   go_roundg k1
   case measure => have:=HK1.out;omega
   case rel => exact ⟨(x7_1),(wrap64 (x8_1 + 1)),eS,H',⟨by have:=HK1.out;omega⟩,⟨by (with_reducible repeat (first|apply Kd.R_alloc|apply Kd.R_drewN|apply Kd.R_drew));exact HO_6.out⟩,⟨by (with_reducible repeat (first|apply Kd.R_alloc|apply Kd.R_drewN|apply Kd.R_drew));exact HO_7.out⟩,⟨KU BK163.out⟩,⟨bH⟩⟩
 rw [if_neg c15] at H
 have c15b0 : (((rd_T102 y167 x8_1).f1).toList == ([] : List UInt8)) = false:=beq_eq_false_iff_ne.mpr c15
 have c15b1 : (((rd_T102 y167 x8_1).f1).toList != ([] : List UInt8)) = true:=bne_iff_ne.mpr c15
 by_cases c17 : x7_1.length < 8796093022208
 rotate_left
 · rw [if_neg c17] at H
   exact absurd H (by simp)
 rw [if_pos c17] at H
 have LMc17:=aq c17
 clear c17
 obtain ⟨y172,hy172⟩ : ∃ y_ : List ByteArray,y_ = (x7_1 ++ [(rd_T102 y167 x8_1).f1]):=⟨_,rfl⟩
 replace H : (sr06_Classes.l0 k1 y167 y172 (wrap64 (x8_1 + 1))) = some r:=by first|(rw [hy172];with_reducible exact H)|(have H2_:=(Option.bind_some _ _).symm.trans H;rw [hy172];with_reducible exact H2_)|(have H2_:=(Option.bind_some _ _).symm.trans H;with_reducible exact H2_)|with_reducible exact H|(rw [hy172];exact H)|exact H
 have Ny172:=aq hy172
 clear hy172
 have H':=aq H
 clear H
 obtain ⟨Ao18,co18,eo18⟩:=Kd.R_slice HO_6.out
 subst eo18
 have p170 : 0 ≤ (x8_1 : Int):=of_decide_eq_true aS
 have q170 : x8_1 < (y167.length : Int):=of_decide_eq_true aS
 obtain ⟨ad170,e170,hx170_0,hx170_1⟩:=at_T102 (Kd.R_reads' HO_6.out).2.2 x8_1 p170 q170
 cases e170
 replace p170:=eq_true p170
 replace q170:=eq_true q170
 have p171 : 0 ≤ (x8_1 : Int):=of_decide_eq_true aS
 have q171 : x8_1 < (y167.length : Int):=of_decide_eq_true aS
 obtain ⟨ad171,e171,hx171_0,hx171_1⟩:=at_T102 (Kd.R_reads' HO_6.out).2.2 x8_1 p171 q171
 obtain rfl : ad170 = ad171:=(by injection e171)
 replace p171:=eq_true p171
 replace q171:=eq_true q171
 go_wp2_with (first|((with_reducible refine gate_builtin (b:=.append) (xs:=#[.tmp 36,.tmp 42]) rfl ?_);at_builtin;refine Kd.R_append Kd.string (w0:=w) w.heap.size rfl (.tmp 36) (.tmp 42) 45 9 (.string ⟨#[]⟩) 16 rfl Tryz.underlying45 info9 rfl (by decide) (by omega) u7 x7_1 ((rd_T102 y167 x8_1).f1) [.string ((rd_T102 y167 x8_1).f1)] (fun _ => True) (fun _ => False) rfl rfl ?aP (fun _ hk => hk.elim) ?aF ?aO ?aB ?aS ?aL ?_;(case aP => exact rfl);(case aB => exact bH);(case aF => exact (fun _ _ => trivial));(case aO => exact (RU HO_7.out));(case aS => exact (below_size bH));(case aL => have:=LMc17.out;omega);intro v173 w19 ho hb hg hat;rw [← Ny172.out] at ho;have n0_:=aq (Kd.R_over' (RU HO_6.out) (Kd.R_typed (RU HO_7.out)) (by decide) hg);have n1_:=aq (blk_grown (g:=gb163) (o:=.cells #[.int .i64 t160,.string t161] 102 (0,0)) (KU BK163.out) hg (Kd.R_ne HO_7.out BK163.out (by decide)));have n2_:=aq (hb);have n3_:=aq (ho);clear HO_6;clear BK163;clear HB;clear HO_7;have HO_6:=n0_;have BK163:=n1_;have HB:=n2_;have HO174:=n3_;clear n0_ n1_ n2_ n3_;clear ho hb hg hat))
 go_roundg k1
 case measure => have:=HK1.out;omega
 case rel => exact ⟨(y172),(wrap64 (x8_1 + 1)),eS,H',⟨by have:=HK1.out;omega⟩,⟨by (with_reducible repeat (first|apply Kd.R_alloc|apply Kd.R_drewN|apply Kd.R_drew));exact HO_6.out⟩,⟨by (with_reducible repeat (first|apply Kd.R_alloc|apply Kd.R_drewN|apply Kd.R_drew));exact HO174.out⟩,⟨KU BK163.out⟩,⟨bH⟩⟩
end Go.Proofs.YtaokkkolbifdpaaGreatDoor.Q8
end

section
namespace Go.Proofs.YtaokkkolbifdpaaGreatDoor.Hand
open Go.RowKit Go.Proofs.YtaokkkolbifdpaaGreatDoorW
open PrintWords PrintLast PrintMore
def descEnd (ret : Ty) (n : Nat) (d : List UInt8) : List UInt8 × Int := if n > 8 then ([], 3) else if d.length > 64 then ([], 3) else (d, 0)
theorem descD_eq (ret : Ty) (ps : List Ty) : descD classL ret ps = if ps.all (paramT classL) = true then (if rightT classL ret = true then descEnd ret ps.length (descText classL ret ps) else ([], 1)) else ([], 1) := by
 unfold descD descEnd
 by_cases h1 : rightT classL ret = true
 ·
  by_cases h2 : ps.all (paramT classL) = true
  ·
   rw [if_pos ⟨h1,h2⟩,if_pos h2,if_pos h1]
  ·
   rw [if_neg (fun h => h2 h.2),if_neg h2]
 ·
  rw [if_neg (fun h => h1 h.1)]
  split <;> first|rfl|simp [h1]
theorem descR_end (x0 : Int) (x1 : ByteArray) (hx : x1.size ≤ 140737488355328) (xs : List (S102)) (p : List UInt8) (k : Nat) (hk : 1 ≤ k) (hp : p.length ≤ 4611686018427387903) (hlen : xs.length ≤ 1048576) :
  ((Q8.sr06_Right.f k x0 x1).bind fun t130 => (if t130 = true then ((Q8.sr06_Text.f k x0 x1).bind fun t131 => (if 1 + t131.size ≤ 9223372036854775807 then (if (lb p).size + ((⟨#[41]⟩ : ByteArray) ++ t131).size ≤ 9223372036854775807 then (if (xs.length : Int) > 8 then (some ((⟨#[]⟩ : ByteArray),(3 : Int))) else (if ((lb p ++ ((⟨#[41]⟩ : ByteArray) ++ t131)).size : Int) > 64 then (some ((⟨#[]⟩ : ByteArray),3)) else (some (lb p ++ ((⟨#[41]⟩ : ByteArray) ++ t131),0)))) else (none)) else (none))) else (some ((⟨#[]⟩ : ByteArray),1))))
   = some (lb (if rightT classL (x0,bl x1) = true then descEnd (x0,bl x1) xs.length (p ++ 41 :: textT classL (x0,bl x1)) else ([],1)).1,(if rightT classL (x0,bl x1) = true then descEnd (x0,bl x1) xs.length (p ++ 41 :: textT classL (x0,bl x1)) else ([],1)).2):=by
 rw [rightR_eq x0 x1 (by omega) k hk,Option.bind_some]
 by_cases hr : rightT classL (x0,bl x1) = true
 ·
  have ht:=text_len (x0,bl x1)
  have hb : (bl x1).length = x1.size:=bl_len x1
  simp only at ht
  have hc : lb p ++ ((⟨#[41]⟩ : ByteArray) ++ lb (textT classL (x0,bl x1))) = lb (p ++ 41 :: textT classL (x0,bl x1)):=by
   have e : (⟨#[41]⟩ : ByteArray) = lb [41]:=rfl
   rw [e,lb_cat,lb_cat]
   rfl
  have hs1 : ((⟨#[41]⟩ : ByteArray) ++ lb (textT classL (x0,bl x1))).size = 1 + (textT classL (x0,bl x1)).length:=by
   have e : (⟨#[41]⟩ : ByteArray) = lb [41]:=rfl
   rw [e,lb_cat,lb_size,List.length_append]
   rfl
  rw [if_pos hr,if_pos hr,textR_eq x0 x1 (by omega) k hk,Option.bind_some,if_pos (by rw [lb_size];omega),if_pos (by rw [lb_size,hs1];omega),hc,lb_size]
  unfold descEnd
  by_cases h8 : xs.length > 8
  ·
   rw [if_pos (by omega),if_pos h8]
   rfl
  ·
   rw [if_neg (by omega),if_neg h8]
   by_cases h64 : (p ++ 41 :: textT classL (x0,bl x1)).length > 64
   ·
    rw [if_pos (by omega),if_pos h64]
    rfl
   ·
    rw [if_neg (by omega),if_neg h64]
 ·
  rw [if_neg hr,if_neg hr]
  rfl
theorem descR_loop (x0 : Int) (x1 : ByteArray) (hx : x1.size ≤ 140737488355328) (xs : List (S102)) (hlen : xs.length ≤ 1048576) (hs : ∀ x ∈ xs, x.f1.size ≤ 140737488355328) : ∀ (d i k : Nat) (p : List UInt8), xs.length - i = d → i ≤ xs.length → 2 * d + 2 ≤ k → (xs.length ≤ 8 → p = preD xs i) → p.length ≤ 1 + (min i 9) * 140737488355331 →
  Q8.sr06_Desc.l0 k xs (lb p) (i : Int) x0 x1 = some (lb (if ((xs.drop i).map ofS).all (paramT classL) = true then (if rightT classL (x0,bl x1) = true then descEnd (x0,bl x1) xs.length (descText classL (x0,bl x1) (xs.map ofS)) else ([],1)) else ([],1)).1,(if ((xs.drop i).map ofS).all (paramT classL) = true then (if rightT classL (x0,bl x1) = true then descEnd (x0,bl x1) xs.length (descText classL (x0,bl x1) (xs.map ofS)) else ([],1)) else ([],1)).2):=by
 intro d
 induction d with
 | zero =>
  intro i k p hd hi hk hp hpl
  obtain ⟨k,rfl⟩ : ∃ j,k = j + 1:=⟨k - 1,by omega⟩
  have hi2 : i = xs.length:=by omega
  rw [Q8.sr06_Desc.l0,if_neg (by omega),descR_end x0 x1 hx xs p k (by omega) (by omega) hlen,List.drop_of_length_le (by omega)]
  simp only [List.map_nil,List.all_nil,if_true]
  by_cases h8 : xs.length > 8
  ·
   unfold descEnd
   rw [if_pos h8,if_pos h8]
  ·
   rw [hp (by omega),hi2,preD_all]
 | succ d ih =>
  intro i k p hd hi hk hp hpl
  obtain ⟨k,rfl⟩ : ∃ j,k = j + 2:=⟨k - 2,by omega⟩
  have h1 : i < xs.length:=by omega
  have hw : wrap64 ((i : Int) + 1) = ((i + 1 : Nat) : Int):=by rw [wrap_in (by omega) (by omega)];omega
  have hsz:=hs xs[i] (List.getElem_mem h1)
  have hpar : paramT classL (ofS xs[i]) = (rightT classL (xs[i].f0,bl xs[i].f1) && !(xs[i].f0 == 1)):=by
   unfold paramT ofS
   by_cases e : xs[i].f0 = 1 <;> simp [e]
  rw [Q8.sr06_Desc.l0,if_pos (by omega),if_pos (by omega),rdT_get xs i h1,rightR_eq _ _ (by omega) (k + 1) (by omega),Option.bind_some,List.drop_eq_getElem_cons h1,List.map_cons,List.all_cons,hpar]
  cases hr : rightT classL (xs[i].f0,bl xs[i].f1) with
  | false =>
   rw [if_neg (by decide),Q8.sr06_Desc.j1,if_pos rfl]
   rfl
  | true =>
   rw [if_pos rfl,Q8.sr06_Desc.j1]
   by_cases hv : xs[i].f0 = 1
   ·
    have e : (xs[i].f0 == 1) = true:=beq_iff_eq.2 hv
    rw [e,if_pos rfl]
    rfl
   ·
    have e : (xs[i].f0 == 1) = false:=beq_eq_false_iff_ne.2 hv
    have ht:=text_len (xs[i].f0,bl xs[i].f1)
    have hb : (bl xs[i].f1).length = xs[i].f1.size:=bl_len _
    simp only at ht
    rw [e,if_neg (by decide),rdT_get xs i h1]
    simp only [Bool.not_false,Bool.true_and]
    by_cases h8 : i ≤ 8
    ·
     rw [if_pos (by omega),if_pos (by omega),if_pos (by omega),textR_eq _ _ (by omega) k (by omega),Option.bind_some,if_pos (by rw [lb_size,lb_size];omega),lb_cat,hw]
     refine ih (i + 1) k _ (by omega) (by omega) (by omega) (fun h => ?_) ?_
     ·
      rw [preD_succ xs i h1,hp h]
      rfl
     ·
      rw [List.length_append]
      omega
    ·
     rw [if_neg (by omega),hw]
     exact ih (i + 1) k p (by omega) (by omega) (by omega) (fun h => absurd h (by omega)) (by rw [Nat.min_eq_right (show 9 ≤ i + 1 by omega)];rw [Nat.min_eq_right (show 9 ≤ i by omega)] at hpl;exact hpl)
theorem descR_eq (x0 : Int) (x1 : ByteArray) (hx : x1.size ≤ 140737488355328) (xs : List (S102)) (hlen : xs.length ≤ 1048576) (hs : ∀ x ∈ xs, x.f1.size ≤ 140737488355328) (k : Nat) (hk : 2 * xs.length + 2 ≤ k) :
  Q8.sr06_Desc.f k x0 x1 xs = some (lb (descD classL (x0,bl x1) (xs.map ofS)).1,(descD classL (x0,bl x1) (xs.map ofS)).2):=by
 have h:=descR_loop x0 x1 hx xs hlen hs xs.length 0 k [40] rfl (by omega) hk (fun _ => rfl) (by simp)
 unfold Q8.sr06_Desc.f
 rw [descD_eq,List.length_map]
 rw [List.drop_zero] at h
 exact h
def splitEnd (acc : List Ty) (q : Option (List Ty × List UInt8)) : List Ty × Ty × Int := match q with
 | some (ps,r) => (match oneT classL r with
  | some (t,[]) => if (acc ++ ps).length ≤ 8 then (acc ++ ps,t,0) else ([],(0,[]),3)
  | _ => ([],(0,[]),1))
 | none => ([],(0,[]),1)
theorem splitEnd_cons (acc : List Ty) (t : Ty) (q : Option (List Ty × List UInt8)) : splitEnd acc (q.map fun p => (t :: p.1, p.2)) = splitEnd (acc ++ [t]) q := by
 cases q with
 | none => rfl
 | some p =>
  unfold splitEnd
  simp only [Option.map_some,List.append_assoc,List.singleton_append]
theorem splitR_loop (s : ByteArray) (hs : s.size ≤ 64) : ∀ (d i k F : Nat) (acc : List (S102)), s.size - i = d → 1 ≤ i → i ≤ s.size → 2 * d + s.size + 10 ≤ k → d < F → acc.length ≤ i →
  Q8.sr06_Split.l0 k s acc (i : Int) = some (((splitEnd (acc.map ofS) (typesF classL F ((bl s).drop i))).1.map toS,(splitEnd (acc.map ofS) (typesF classL F ((bl s).drop i))).2.1.1,lb (splitEnd (acc.map ofS) (typesF classL F ((bl s).drop i))).2.1.2,(splitEnd (acc.map ofS) (typesF classL F ((bl s).drop i))).2.2)):=by
 intro d
 induction d using Nat.strongRecOn with
 | ind d ih =>
  intro i k F acc hd h1 hi hk hF hacc
  obtain ⟨k,rfl⟩ : ∃ j,k = j + 2:=⟨k - 2,by omega⟩
  obtain ⟨F,rfl⟩ : ∃ j,F = j + 1:=⟨F - 1,by omega⟩
  have hto : ∀ l : List (S102),(l.map ofS).map toS = l:=fun l => by
   rw [List.map_map]
   conv => rhs;rw [← List.map_id l]
   exact List.map_congr_left fun x _ => by
    show toS (ofS x) = x
    apply ofS_inj
    rfl
  rw [Q8.sr06_Split.l0]
  by_cases hlt : i < s.size
  ·
   obtain ⟨b,hb1,hb2,hdr⟩:=bt_bl s i hlt
   rw [if_pos (by omega),if_pos (by omega),hb2,Q8.sr06_Split.j2]
   by_cases h41 : b = 41
   ·
    have e : ((b.toNat : Int) != 41) = false:=by rw [h41];rfl
    have hw : wrap64 ((i : Int) + 1) = ((i + 1 : Nat) : Int):=by rw [wrap_in (by omega) (by omega)];omega
    have hx : bl (s.extract (i + 1) s.size) = (bl s).drop (i + 1):=bl_drop s (i + 1)
    have hxs:=extract_size s (i + 1) s.size
    have hT : typesF classL (F + 1) ((bl s).drop i) = some ([],(bl s).drop (i + 1)):=by
     rw [hdr,typesF,List.head?_cons,if_pos (by rw [h41]),List.tail_cons]
    rw [e,if_neg (by decide),if_neg (by omega),hw,if_pos (by omega),if_pos (by omega),Int.toNat_natCast,parseTR_eq _ (by omega) k (by omega),Option.bind_some,hx,hT]
    unfold splitEnd parseT
    simp only [List.append_nil,List.length_map]
    cases ho : oneT classL ((bl s).drop (i + 1)) with
    | none => rfl
    | some q =>
     obtain ⟨t,r⟩:=q
     cases r with
     | cons x r => rfl
     | nil =>
      simp only
      rw [if_pos trivial]
      by_cases h8 : acc.length ≤ 8
      ·
       rw [if_neg (by omega),if_pos h8]
       simp only [hto]
      ·
       rw [if_pos (by omega),if_neg h8]
       rfl
   ·
    have e : ((b.toNat : Int) != 41) = true:=by
     have : ((b.toNat : Int) == 41) = false:=beq_eq_false_iff_ne.2 fun h => h41 ((byte_is (c:=41) (m:=41) (by decide)).1 h)
     unfold bne
     rw [this]
     rfl
    have hN:=next_is s (by omega) i (by omega) k (by omega)
    rw [e,if_pos rfl]
    have hT : typesF classL (F + 1) ((bl s).drop i) = match oneT classL ((bl s).drop i) with
      | some (t,r) => if t.1 = 1 then none else (typesF classL F r).map fun p => (t :: p.1,p.2)
      | none => none:=by
     rw [typesF,if_neg (by rw [hdr,List.head?_cons];simpa using h41)]
     rfl
    rw [hT]
    cases ho : oneT classL ((bl s).drop i) with
    | none =>
     rw [ho] at hN
     obtain ⟨a,b,c,hN⟩:=hN
     rw [hN,Option.bind_some]
     dsimp only
     rw [if_neg (by decide)]
     rfl
    | some q =>
     obtain ⟨t,r⟩:=q
     have hback:=(one_back ho)
     rw [ho] at hN
     obtain ⟨hN1,hN⟩:=hN
     rw [hN,Option.bind_some]
     dsimp only
     rw [if_pos rfl]
     by_cases hv : t.1 = 1
     ·
      rw [if_pos hv,if_pos hv]
      rfl
     ·
      have hlen:=congrArg List.length hback.2
      rw [List.length_append,List.length_drop,bl_len] at hlen
      obtain ⟨x,y,hxy,_⟩:=text_ne hback.1
      rw [hxy,List.length_cons] at hlen
      have hr : r = (bl s).drop (s.size - r.length):=by
       have h3:=congrArg (List.drop (textT classL t).length) hback.2
       rw [List.drop_left,List.drop_drop] at h3
       have h4 : (textT classL t).length = y.length + 1:=by rw [hxy,List.length_cons]
       have h5 : s.size - r.length = i + (textT classL t).length:=by omega
       rw [h5]
       exact h3.symm
      rw [if_neg hv,if_neg hv,if_pos (by omega)]
      have hih:=ih (s.size - (s.size - r.length)) (by omega) (s.size - r.length) k F (acc ++ [⟨t.1,lb t.2⟩]) rfl (by omega) (by omega) (by omega) (by omega) (by rw [List.length_append];simp;omega)
      rw [← hr] at hih
      rw [hih,splitEnd_cons,List.map_append]
      rfl
  ·
   have e : typesF classL (F + 1) ((bl s).drop i) = none:=by
    rw [List.drop_of_length_le (by rw [bl_len];omega)]
    rfl
   rw [if_neg (by omega),Q8.sr06_Split.j2,if_neg (by decide),if_pos (by omega),e]
   rfl
theorem splitR_eq (s : ByteArray) (k : Nat) (hk : 300 ≤ k) :
  Q8.sr06_Split.f k s = some ((splitD classL (bl s)).1.map toS,(splitD classL (bl s)).2.1.1,lb (splitD classL (bl s)).2.1.2,(splitD classL (bl s)).2.2):=by
 obtain ⟨k,rfl⟩ : ∃ j,k = j + 1:=⟨k - 1,by omega⟩
 unfold Q8.sr06_Split.f splitD
 by_cases h64 : s.size > 64
 ·
  rw [if_pos (show (s.size : Int) > 64 by omega),if_pos (show (bl s).length > 64 by rw [bl_len];exact h64)]
  rfl
 ·
  rw [if_neg (show ¬ (s.size : Int) > 64 by omega),if_neg (show ¬ (bl s).length > 64 by rw [bl_len];exact h64)]
  by_cases h0 : s.size = 0
  ·
   have e : (bl s) = []:=List.eq_nil_of_length_eq_zero (by rw [bl_len];exact h0)
   rw [if_pos (by omega),Q8.sr06_Split.j0,if_pos rfl,e]
   rfl
  ·
   obtain ⟨b,hb1,hb2,hdr⟩:=bt_bl s 0 (by omega)
   rw [List.drop_zero] at hdr
   have hb2' : bt s 0 = (b.toNat : Int):=hb2
   rw [if_neg (by omega),if_pos (by omega),hb2',Q8.sr06_Split.j0]
   by_cases h40 : b = 40
   ·
    have e : ((b.toNat : Int) != 40) = false:=by rw [h40];rfl
    have h:=splitR_loop s (by omega) _ 1 k 65 [] rfl (by omega) (by omega) (by omega) (by omega) (by simp)
    rw [e,if_neg (by decide)]
    rw [hdr,List.head?_cons,if_pos (by rw [h40]),List.tail_cons]
    have h' : Q8.sr06_Split.l0 k s [] 1 = _:=h
    rw [h']
    unfold splitEnd
    simp only [List.map_nil,List.nil_append]
    cases typesF classL 65 (List.drop (0 + 1) (bl s)) with
    | none => rfl
    | some q => rfl
   ·
    have e : ((b.toNat : Int) != 40) = true:=by
     have : ((b.toNat : Int) == 40) = false:=beq_eq_false_iff_ne.2 fun h => h40 ((byte_is (c:=40) (m:=40) (by decide)).1 h)
     unfold bne
     rw [this]
     rfl
    rw [e,if_pos rfl,hdr,List.head?_cons,if_neg (by simpa using h40)]
    rfl
theorem renamedR_loop (l : List (S23)) (hl : l.length ≤ 1048576) (hL : ∀ x ∈ l, x.f1.size ≤ 140737488355328) (x0 : Int) (x1 : ByteArray) (hx : x1.size ≤ 140737488355328) (ps : List (S102)) (hps : ps.length ≤ 8) (hp : ∀ x ∈ ps, x.f1.size ≤ 140737488355328) : ∀ (d i k : Nat), ps.length - i = d → i ≤ ps.length → d + 2 * l.length + 30 ≤ k →
  Q8.sr06_Renamed.l0 k l ps ((ps.take i).map (renS l)) (i : Int) x0 x1 = some (lb (descD classL (renT (l.map pairT) (x0,bl x1)) ((ps.map (renS l)).map ofS)).1):=by
 have hL2 : ∀ p ∈ l.map pairT,p.2.length ≤ 140737488355328:=fun p hp => by
  obtain ⟨x,hx,rfl⟩:=List.mem_map.1 hp
  show (bl x.f1).length ≤ _
  rw [bl_len]
  exact hL x hx
 have hrS : ∀ x : S102,x.f1.size ≤ 140737488355328 → (renS l x).f1.size ≤ 140737488355328:=fun x hx => by
  show (lb (renT (l.map pairT) (ofS x)).2).size ≤ _
  rw [lb_size]
  exact renT_len hL2 (by show (bl x.f1).length ≤ _;rw [bl_len];exact hx)
 intro d
 induction d with
 | zero =>
  intro i k hd hi hk
  obtain ⟨k,rfl⟩ : ∃ j,k = j + 1:=⟨k - 1,by omega⟩
  have hz : (lb (renT (l.map pairT) (x0,bl x1)).2).size ≤ 140737488355328:=by
   rw [lb_size]
   exact renT_len hL2 (by show (bl x1).length ≤ _;rw [bl_len];exact hx)
  rw [Q8.sr06_Renamed.l0,if_neg (by omega),renR_eq x0 x1 l (by omega) k (by omega),Option.bind_some,List.take_of_length_le (by omega)]
  simp only
  rw [descR_eq _ _ hz _ (by rw [List.length_map];omega) (fun y hy => by
   obtain ⟨x,hx,rfl⟩:=List.mem_map.1 hy
   exact hrS x (hp x hx)) k (by rw [List.length_map];omega),Option.bind_some]
  rfl
 | succ d ih =>
  intro i k hd hi hk
  obtain ⟨k,rfl⟩ : ∃ j,k = j + 1:=⟨k - 1,by omega⟩
  have h1 : i < ps.length:=by omega
  have hw : wrap64 ((i : Int) + 1) = ((i + 1 : Nat) : Int):=by rw [wrap_in (by omega) (by omega)];omega
  have ht : (ps.take (i + 1)).map (renS l) = (ps.take i).map (renS l) ++ [renS l ps[i]]:=by
   rw [List.take_add_one,List.getElem?_eq_getElem h1,List.map_append]
   rfl
  have ih:=ih (i + 1) k (by omega) (by omega) (by omega)
  rw [ht] at ih
  rw [Q8.sr06_Renamed.l0,if_pos (by omega),if_pos (by omega),rdT_get ps i h1,renR_eq _ _ l (by omega) k (by omega),Option.bind_some,if_pos (by rw [List.length_map,List.length_take];omega),hw]
  exact ih
theorem renamedR_eq (s : ByteArray) (l : List (S23)) (hl : l.length ≤ 1048576) (hL : ∀ x ∈ l, x.f1.size ≤ 140737488355328) (k : Nat) (hk : 2 * l.length + 400 ≤ k) :
  Q8.sr06_Renamed.f k s l = some (lb (renD classL (bl s) (l.map pairT))):=by
 unfold Q8.sr06_Renamed.f renD
 rw [splitR_eq s k (by omega),Option.bind_some]
 obtain ⟨h1,h2,h3⟩:=split_short (bl s)
 obtain ⟨ps,t,e,hq⟩ : ∃ ps t e,splitD classL (bl s) = (ps,t,e):=⟨_,_,_,rfl⟩
 rw [hq] at h1 h2 h3 ⊢
 simp only at h1 h2 h3 ⊢
 by_cases h0 : e = 0
 ·
  rw [if_pos h0,if_pos h0]
  have h:=renamedR_loop l hl hL t.1 (lb t.2) (by rw [lb_size];omega) (ps.map toS) (by rw [List.length_map];exact h1) (fun x hx => by
   obtain ⟨y,hy,rfl⟩:=List.mem_map.1 hx
   show (lb y.2).size ≤ _
   rw [lb_size]
   have:=h2 y hy
   omega) _ 0 k rfl (by omega) (by rw [List.length_map];omega)
  rw [ren_map] at h
  exact h
 ·
  rw [if_neg h0,if_neg h0]
  rfl
theorem classesR_loop (xs : List (S102)) (hl : xs.length ≤ 9) : ∀ (d i k : Nat) (acc : List ByteArray), xs.length - i = d → i ≤ xs.length → d < k → acc.length ≤ i →
  Q8.sr06_Classes.l0 k xs acc (i : Int) = some (acc ++ ((((xs.drop i).map ofS).map (·.2)).filter (fun c => !c.isEmpty)).map lb):=by
 intro d
 induction d with
 | zero =>
  intro i k acc hd hi hk _
  obtain ⟨k,rfl⟩ : ∃ j,k = j + 1:=⟨k - 1,by omega⟩
  rw [Q8.sr06_Classes.l0,if_neg (by omega),List.drop_of_length_le (by omega)]
  simp
 | succ d ih =>
  intro i k acc hd hi hk ha
  obtain ⟨k,rfl⟩ : ∃ j,k = j + 1:=⟨k - 1,by omega⟩
  have h1 : i < xs.length:=by omega
  have hw : wrap64 ((i : Int) + 1) = ((i + 1 : Nat) : Int):=by rw [wrap_in (by omega) (by omega)];omega
  have hb : xs[i].f1.toList = bl xs[i].f1:=ByteArray.toList_eq _
  rw [Q8.sr06_Classes.l0,if_pos (by omega),if_pos (by omega),rdT_get xs i h1,hw,hb,List.drop_eq_getElem_cons h1,List.map_cons,List.map_cons]
  have hof : (ofS xs[i]).2 = bl xs[i].f1:=rfl
  rw [hof]
  by_cases he : bl xs[i].f1 = []
  ·
   rw [if_pos he,ih (i + 1) k acc (by omega) (by omega) (by omega) (by omega),he]
   rfl
  ·
   rw [if_neg he,if_pos (by omega),ih (i + 1) k _ (by omega) (by omega) (by omega) (by rw [List.length_append];simp;omega),List.filter_cons,if_pos (by simpa using he),List.map_cons,lb_bl,List.append_assoc]
   rfl
theorem classesR_eq (s : ByteArray) (k : Nat) (hk : 300 ≤ k) : Q8.sr06_Classes.f k s = some ((classesD classL (bl s)).map lb) := by
 unfold Q8.sr06_Classes.f classesD
 rw [splitR_eq s k hk,Option.bind_some]
 obtain ⟨h1,h2,h3⟩:=split_short (bl s)
 obtain ⟨ps,t,e,hq⟩ : ∃ ps t e,splitD classL (bl s) = (ps,t,e):=⟨_,_,_,rfl⟩
 rw [hq] at h1 h2 h3 ⊢
 simp only at h1 h2 h3 ⊢
 by_cases h0 : e = 0
 ·
  rw [if_pos h0,if_pos h0,if_pos (by rw [List.length_map];simp;omega),Option.bind_some,if_pos (by rw [List.length_append,List.length_map];simp;omega)]
  have h:=classesR_loop (ps.map toS ++ [toS t]) (by rw [List.length_append,List.length_map];simp;omega) _ 0 k [] rfl (by omega) (by rw [List.length_append,List.length_map];simp;omega) (by simp)
  rw [List.drop_zero,show ps.map toS ++ [toS t] = (ps ++ [t]).map toS from by simp,show ((ps ++ [t]).map toS).map ofS = ps ++ [t] from by rw [List.map_map,show (ofS ∘ toS) = id from by funext x;exact ofS_toS x,List.map_id]] at h
  simp only [List.nil_append] at h ⊢
  rw [show ps.map toS ++ [(⟨t.1,lb t.2⟩ : S102)] = (ps ++ [t]).map toS from by simp [toS]]
  exact h
 ·
  rw [if_neg h0,if_neg h0]
  rfl
def sr06_RenamedType.f (k : Int) (c : ByteArray) (l : List (S23)) : Option (Int × ByteArray) := if l.length ≤ 1048576 then some ((renT (l.map pairT) (k, bl c)).1, lb (renT (l.map pairT) (k, bl c)).2) else none
theorem sr06_RenamedType.calls (a0_0 : Int) (a0_1 : ByteArray) (A1 : Option Addr) (c1 : Nat) (l1 : List (S23)) (r1 : Int) (r2 : ByteArray) (w : World) (hr1 : Kd.C k23 w A1 l1.length l1) (hc1 : l1.length ≤ c1) (h : sr06_RenamedType.f a0_0 a0_1 l1 = some (r1, r2)) :
  Calls Tryz.prog 84 #[.agg #[.int .i64 a0_0,.string a0_1],.slice A1 l1.length c1] w fun e w' => e = .returned (.agg #[.int .i64 r1,.string r2]) ∧ Below w.heap.size w w':=by
 unfold sr06_RenamedType.f at h
 split at h
 ·
  rename_i hs
  exact Q8.sr06_RenamedType.calls _ a0_0 a0_1 A1 c1 l1 r1 r2 w hr1 hc1 ((renR_eq a0_0 a0_1 l1 (by omega) _ (Nat.le_refl _)).trans h)
 ·
  cases h
def sr06_Desc.f (k : Int) (c : ByteArray) (l : List (S102)) : Option (ByteArray × Int) := if c.size ≤ 140737488355328 ∧ l.length ≤ 1048576 ∧ shortS l = true then some (lb (descD classL (k, bl c) (l.map ofS)).1, (descD classL (k, bl c) (l.map ofS)).2) else none
theorem sr06_Desc.calls (a0_0 : Int) (a0_1 : ByteArray) (A1 : Option Addr) (c1 : Nat) (l1 : List (S102)) (r1 : ByteArray) (r2 : Int) (w : World) (hr1 : Kd.C k102 w A1 l1.length l1) (hc1 : l1.length ≤ c1) (h : sr06_Desc.f a0_0 a0_1 l1 = some (r1, r2)) :
  Calls Tryz.prog 85 #[.agg #[.int .i64 a0_0,.string a0_1],.slice A1 l1.length c1] w fun e w' => e = .returned (.tuple #[.string r1,.int .i64 r2]) ∧ Below w.heap.size w w':=by
 unfold sr06_Desc.f at h
 split at h
 ·
  rename_i hs
  exact Q8.sr06_Desc.calls _ a0_0 a0_1 A1 c1 l1 r1 r2 w hr1 hc1 ((descR_eq a0_0 a0_1 hs.1 l1 hs.2.1 (short_mem hs.2.2) _ (Nat.le_refl _)).trans h)
 ·
  cases h
def sr06_Split.f (s : ByteArray) : Option (List (S102) × Int × ByteArray × Int) := some ((splitD classL (bl s)).1.map toS, (splitD classL (bl s)).2.1.1, lb (splitD classL (bl s)).2.1.2, (splitD classL (bl s)).2.2)
theorem sr06_Split.calls (a0 : ByteArray) (r1 : List (S102)) (r2 : Int) (r3 : ByteArray) (r4 : Int) (w : World) (h : sr06_Split.f a0 = some (r1, r2, r3, r4)) :
  Calls Tryz.prog 83 #[.string a0] w fun e w' => ∃ v0_ : Value,e = .returned (.tuple #[v0_,.agg #[.int .i64 r2,.string r3],.int .i64 r4]) ∧ Kd.R k102 102 w' w.heap.size (fun _ => True) v0_ r1 ∧ Below w.heap.size w w' :=
 Q8.sr06_Split.calls 300 a0 r1 r2 r3 r4 w ((splitR_eq a0 300 (Nat.le_refl _)).trans h)
def sr06_Renamed.f (s : ByteArray) (l : List (S23)) : Option ByteArray := if l.length ≤ 1048576 ∧ shortP l = true then some (lb (renD classL (bl s) (l.map pairT))) else none
theorem sr06_Renamed.calls (a0 : ByteArray) (A1 : Option Addr) (c1 : Nat) (l1 : List (S23)) (r : ByteArray) (w : World) (hr1 : Kd.C k23 w A1 l1.length l1) (hc1 : l1.length ≤ c1) (h : sr06_Renamed.f a0 l1 = some r) :
  Calls Tryz.prog 61 #[.string a0,.slice A1 l1.length c1] w fun e w' => e = .returned (.string r) ∧ Below w.heap.size w w':=by
 unfold sr06_Renamed.f at h
 split at h
 ·
  rename_i hs
  exact Q8.sr06_Renamed.calls _ a0 A1 c1 l1 r w hr1 hc1 ((renamedR_eq a0 l1 hs.1 (shortP_mem hs.2) _ (Nat.le_refl _)).trans h)
 ·
  cases h
def sr06_Classes.f (s : ByteArray) : Option (List ByteArray) := some ((classesD classL (bl s)).map lb)
theorem sr06_Classes.calls (a0 : ByteArray) (r : List ByteArray) (w : World) (h : sr06_Classes.f a0 = some r) :
  Calls Tryz.prog 63 #[.string a0] w fun e w' => ∃ v0_ : Value,e = .returned (v0_) ∧ Kd.R Kd.string 9 w' w.heap.size (fun _ => True) v0_ r ∧ Below w.heap.size w w' :=
 Q8.sr06_Classes.calls 300 a0 r w ((classesR_eq a0 300 (Nat.le_refl _)).trans h)
end Go.Proofs.YtaokkkolbifdpaaGreatDoor.Hand
end

section
namespace Go.Proofs.YtaokkkolbifdpaaGreatDoor.Q34
open Go.RowKit Go.Proofs.YtaokkkolbifdpaaGreatDoorW
open PrintWords PrintLast PrintMore Go.Proofs.YtaokkkolbifdpaaGreatDoor.Hand
attribute [local go_sem] max2_int min2_int max_two min_two max_three min_three max_four min_four
def errW : Option Int → Value
  | none => .nilIface
  | some c => .iface 0 (.int .i64 c)
theorem errW_none : errW none = .nilIface := rfl
theorem errW_some (c : Int) : errW (some c) = .iface 0 (.int .i64 c) := rfl
theorem info9 : (Tryz.prog.info? 9).map (fun i => (i.zero, i.size, i.bytes)) = some (some (.string ⟨#[]⟩), 1, 16) := by kernel_rfl
theorem info23 : (Tryz.prog.info? 23).map (fun i => (i.zero, i.size, i.bytes)) = some (some (.agg #[(.string ⟨#[]⟩), (.string ⟨#[]⟩)]), 2, 32) := by kernel_rfl
def sr29_cut.l0 : Nat → ByteArray → Int → Option (ByteArray × ByteArray)
  | 0,_,_ => none
  | k + 1,x0,x4 => if x4 < (x0.size : Int) then (if 0 ≤ x4 then (if (bt x0 x4) = 40 then (if x4 ≤ (x0.size : Int) then (some (x0.extract 0 (x4 : Int).toNat,x0.extract (x4 : Int).toNat x0.size)) else (none)) else (sr29_cut.l0 k x0 (wrap64 (x4 + 1)))) else (none)) else (some (x0,(⟨#[]⟩ : ByteArray)))
def sr29_cut.f (k : Nat) (a0 : ByteArray) : Option (ByteArray × ByteArray) := sr29_cut.l0 k a0 0
theorem sr29_cut.calls (k : Nat) (a0 : ByteArray) (r1 : ByteArray) (r2 : ByteArray) (w : World) (h : sr29_cut.f k a0 = some (r1, r2)) :
    Calls Tryz.prog 60 #[.string a0] w fun e w' => e = .returned (.tuple #[.string r1,.string r2]) ∧ Drawn0 w w':=by
 have H : (sr29_cut.l0 k a0 0) = some (r1,r2):=h
 clear h
 have H':=aq H
 clear H
 go_enter Tryz.func60,Tryz.ntmps60
 go_wp2
 repeat (go_quiet (fail);try go_wp2)
 go_loopg [4] k (fun kq v4 w' => ∃ (x4_1 : Int),v4 = .int .i64 x4_1 ∧ Aside0 (sr29_cut.l0 kq a0 x4_1 = some (r1,r2)) ∧ Aside0 (kq ≤ k) ∧ Drawn0 w w')
 case atStart => exact ⟨(0),eS,H',⟨Nat.le_refl _⟩,dR⟩
 case round =>
 clear H'
 obtain ⟨x4_1,rfl,HA,HK1,⟨m1,rfl⟩⟩:=hrel
 cases gk with
 | zero => exact absurd HA.out (by simp [sr29_cut.l0])
 | succ k1 =>
 have H:=HA.out
 clear HA
 simp only [sr29_cut.l0] at H
 by_cases c2 : x4_1 < (a0.size : Int)
 rotate_left
 · rw [if_neg c2] at H
   have c2b0 : decide (x4_1 < (a0.size : Int)) = false:=decide_eq_false c2
   clear c2
   simp only [Option.some.injEq,Prod.mk.injEq] at H
   obtain ⟨rfl,rfl⟩:=H
   go_wp2
   repeat (go_quiet (fail);try go_wp2)
   go_ret2
   exact ⟨eS,dR⟩
 rw [if_pos c2] at H
 have c2b0 : decide (x4_1 < (a0.size : Int)) = true:=decide_eq_true c2
 clear c2
 by_cases c3 : 0 ≤ x4_1
 rotate_left
 · rw [if_neg c3] at H
   exact absurd H (by simp)
 rw [if_pos c3] at H
 have c3b0 : decide (0 ≤ x4_1) = true:=decide_eq_true c3
 clear c3
 by_cases c5 : (bt a0 x4_1) = 40
 rotate_left
 · rw [if_neg c5] at H
   have c5b0 : ((bt a0 x4_1) == 40) = false:=beq_eq_false_iff_ne.mpr c5
   have c5b1 : ((bt a0 x4_1) != 40) = true:=bne_iff_ne.mpr c5
   have H':=aq H
   clear H
   have p4 : 0 ≤ (x4_1 : Int):=of_decide_eq_true aS
   have q4 : x4_1 < (a0.size : Int):=of_decide_eq_true aS
   have hx4:=bt_at a0 x4_1
   replace p4:=eq_true p4
   replace q4:=eq_true q4
   go_wp2
   repeat (go_quiet (fail);try go_wp2)
   go_roundg k1
   case measure => have:=HK1.out;omega
   case rel => exact ⟨(wrap64 (x4_1 + 1)),eS,H',⟨by have:=HK1.out;omega⟩,dR⟩
 rw [if_pos c5] at H
 have c5b0 : ((bt a0 x4_1) == 40) = true:=beq_iff_eq.mpr c5
 have c5b1 : ((bt a0 x4_1) != 40) = false:=bne_eq_false_iff_eq.mpr c5
 clear c5
 have c6b0:=eq_true (of_decide_eq_true aS : 0 ≤ x4_1)
 by_cases c7 : x4_1 ≤ (a0.size : Int)
 rotate_left
 · rw [if_neg c7] at H
   exact absurd H (by simp)
 rw [if_pos c7] at H
 have c7b0:=eq_true c7
 have c7b1 : decide (x4_1 ≤ (a0.size : Int)) = true:=decide_eq_true c7
 clear c7
 have c8b0:=eq_true (of_decide_eq_true aS : 0 ≤ x4_1)
 have c9b0:=eq_true (of_decide_eq_true aS : x4_1 ≤ (a0.size : Int))
 simp only [Option.some.injEq,Prod.mk.injEq] at H
 obtain ⟨rfl,rfl⟩:=H
 have p4 : 0 ≤ (x4_1 : Int):=of_decide_eq_true aS
 have q4 : x4_1 < (a0.size : Int):=of_decide_eq_true aS
 have hx4:=bt_at a0 x4_1
 replace p4:=eq_true p4
 replace q4:=eq_true q4
 go_wp2
 repeat (go_quiet (fail);try go_wp2)
 go_ret2
 exact ⟨eS,dR⟩
mutual
def sr29_named.l0 : Nat → List (S23) → List ByteArray → Int → Option (Bool)
  | 0,_,_,_ => none
  | k + 1,x0,x1,x5 => if x5 < (x1.length : Int) then (sr29_named.l1 k x0 x1 x5 false 0) else (some true)
def sr29_named.l1 : Nat → List (S23) → List ByteArray → Int → Bool → Int → Option (Bool)
  | 0,_,_,_,_,_ => none
  | k + 1,x0,x1,x5,x6,x7 => if x7 < (x0.length : Int) then (if x6 = true then (sr29_named.l1 k x0 x1 x5 true (wrap64 (x7 + 1))) else (if 0 ≤ x7 then (if 0 ≤ x5 then (if x5 < (x1.length : Int) then (sr29_named.l1 k x0 x1 x5 (((rd_T23 x0 x7).f0).toList == (rdOf ByteArray.empty x1 x5).toList) (wrap64 (x7 + 1))) else (none)) else (none)) else (none))) else (if x6 = true then (sr29_named.l0 k x0 x1 (wrap64 (x5 + 1))) else (some false))
end
def sr29_named.f (k : Nat) (l0 : List (S23)) (l1 : List ByteArray) : Option (Bool) := sr29_named.l0 k l0 l1 0
theorem sr29_named.calls (k : Nat) (A0 : Option Addr) (c0 : Nat) (l0 : List (S23)) (A1 : Option Addr) (c1 : Nat) (l1 : List ByteArray) (r : Bool) (w : World) (hr0 : Kd.C k23 w A0 l0.length l0) (hc0 : l0.length ≤ c0) (hr1 : Kd.C Kd.string w A1 l1.length l1) (hc1 : l1.length ≤ c1) (h : sr29_named.f k l0 l1 = some r) :
    Calls Tryz.prog 62 #[.slice A0 l0.length c0,.slice A1 l1.length c1] w fun e w' => e = .returned (.bool r) ∧ Drawn0 w w':=by
 have HR0:=aq hr0
 have HC0:=aq hc0
 clear hr0 hc0
 have HR1:=aq hr1
 have HC1:=aq hc1
 clear hr1 hc1
 have H : (sr29_named.l0 k l0 l1 0) = some r:=h
 clear h
 have H':=aq H
 clear H
 go_enter Tryz.func62,Tryz.ntmps62
 go_wp2
 repeat (go_quiet (fail);try go_wp2)
 go_loopg [5] k (fun kq v5 w' => ∃ (x5_1 : Int),v5 = .int .i64 x5_1 ∧ Aside0 (sr29_named.l0 kq l0 l1 x5_1 = some r) ∧ Aside0 (kq ≤ k) ∧ Drawn0 w w')
 case atStart => exact ⟨(0),eS,H',⟨Nat.le_refl _⟩,dR⟩
 case round =>
 clear H'
 try clear c1
 obtain ⟨x5_1,rfl,HA,HK1,⟨m1,rfl⟩⟩:=hrel
 cases gk with
 | zero => exact absurd HA.out (by simp [sr29_named.l0])
 | succ k1 =>
 have H:=HA.out
 clear HA
 simp only [sr29_named.l0] at H
 by_cases c3 : x5_1 < (l1.length : Int)
 rotate_left
 · rw [if_neg c3] at H
   have c3b0 : decide (x5_1 < (l1.length : Int)) = false:=decide_eq_false c3
   clear c3
   obtain rfl:=Option.some.inj H
   go_wp2
   repeat (go_quiet (fail);try go_wp2)
   go_ret
   exact ⟨eS,dR⟩
 rw [if_pos c3] at H
 have c3b0 : decide (x5_1 < (l1.length : Int)) = true:=decide_eq_true c3
 clear c3
 have H':=aq H
 clear H
 go_wp2
 repeat (go_quiet (fail);try go_wp2)
 go_loopg [6,7] k1 (fun kq v6 v7 w' => ∃ (x6_2 : Bool) (x7_2 : Int),v6 = .bool x6_2 ∧ v7 = .int .i64 x7_2 ∧ Aside0 (sr29_named.l1 kq l0 l1 x5_1 x6_2 x7_2 = some r) ∧ Aside0 (kq ≤ k1) ∧ Drawn0 w w')
 case atStart => exact ⟨(false),(0),eS,eS,H',⟨Nat.le_refl _⟩,dR⟩
 case round =>
 clear H'
 (try clear c1);(try clear c3);(try clear c3b0)
 obtain ⟨x6_2,x7_2,rfl,rfl,HA,HK2,⟨m2,rfl⟩⟩:=hrel
 cases gk with
 | zero => exact absurd HA.out (by simp [sr29_named.l1])
 | succ k2 =>
 have H:=HA.out
 clear HA
 simp only [sr29_named.l1] at H
 by_cases c4 : x7_2 < (l0.length : Int)
 rotate_left
 · rw [if_neg c4] at H
   have c4b0 : decide (x7_2 < (l0.length : Int)) = false:=decide_eq_false c4
   clear c4
   by_cases c9 : x6_2 = true
   rotate_left
   · replace c9:=Bool.eq_false_iff.mpr c9
     subst c9
     have H1 : (some false) = some r:=by rw [if_neg (show ¬ (false = true) by decide)] at H;exact H
     clear H
     have H:=H1
     clear H1
     obtain rfl:=Option.some.inj H
     go_wp2
     repeat (go_quiet (fail);try go_wp2)
     go_ret
     exact ⟨eS,dR⟩
   subst c9
   have H1 : (sr29_named.l0 k2 l0 l1 (wrap64 (x5_1 + 1))) = some r:=by rw [if_pos rfl] at H;exact H
   clear H
   have H:=H1
   clear H1
   have H':=aq H
   clear H
   go_wp2
   repeat (go_quiet (fail);try go_wp2)
   go_roundg k2
   case measure => have:=HK1.out;have:=HK2.out;omega
   case rel => exact ⟨(wrap64 (x5_1 + 1)),eS,H',⟨by have:=HK1.out;have:=HK2.out;omega⟩,dR⟩
 rw [if_pos c4] at H
 have c4b0 : decide (x7_2 < (l0.length : Int)) = true:=decide_eq_true c4
 clear c4
 by_cases c5 : x6_2 = true
 · subst c5
   have H1 : (sr29_named.l1 k2 l0 l1 x5_1 true (wrap64 (x7_2 + 1))) = some r:=by rw [if_pos rfl] at H;exact H
   clear H
   have H:=H1
   clear H1
   have H':=aq H
   clear H
   go_wp2
   repeat (go_quiet (fail);try go_wp2)
   go_roundg k2
   case measure => have:=HK1.out;have:=HK2.out;omega
   case rel => exact ⟨(true),(wrap64 (x7_2 + 1)),eS,eS,H',⟨by have:=HK1.out;have:=HK2.out;omega⟩,dR⟩
 replace c5:=Bool.eq_false_iff.mpr c5
 subst c5
 have H1 : (if 0 ≤ x7_2 then (if 0 ≤ x5_1 then (if x5_1 < (l1.length : Int) then (sr29_named.l1 k2 l0 l1 x5_1 (((rd_T23 l0 x7_2).f0).toList == (rdOf ByteArray.empty l1 x5_1).toList) (wrap64 (x7_2 + 1))) else (none)) else (none)) else (none)) = some r:=by rw [if_neg (show ¬ (false = true) by decide)] at H;exact H
 clear H
 have H:=H1
 clear H1
 by_cases c6 : 0 ≤ x7_2
 rotate_left
 · rw [if_neg c6] at H
   exact absurd H (by simp)
 rw [if_pos c6] at H
 have c6b0 : decide (0 ≤ x7_2) = true:=decide_eq_true c6
 clear c6
 by_cases c7 : 0 ≤ x5_1
 rotate_left
 · rw [if_neg c7] at H
   exact absurd H (by simp)
 rw [if_pos c7] at H
 have c7b0 : decide (0 ≤ x5_1) = true:=decide_eq_true c7
 clear c7
 by_cases c8 : x5_1 < (l1.length : Int)
 rotate_left
 · rw [if_neg c8] at H
   exact absurd H (by simp)
 rw [if_pos c8] at H
 have c8b0 : decide (x5_1 < (l1.length : Int)) = true:=decide_eq_true c8
 clear c8
 have H':=aq H
 clear H
 have p101 : 0 ≤ (x7_2 : Int):=of_decide_eq_true aS
 have q101 : x7_2 < (l0.length : Int):=of_decide_eq_true aS
 obtain ⟨ad101,e101,hx101_0,hx101_1⟩:=at_T23 HR0.out x7_2 p101 q101
 cases e101
 replace p101:=eq_true p101
 replace q101:=eq_true q101
 have p102 : 0 ≤ (x5_1 : Int):=of_decide_eq_true aS
 have q102 : x5_1 < (l1.length : Int):=of_decide_eq_true aS
 obtain ⟨ad102,e102,hx102_0⟩:=Kd.at_string HR1.out x5_1 p102 q102
 cases e102
 replace p102:=eq_true p102
 replace q102:=eq_true q102
 go_wp2
 repeat (go_quiet (fail);try go_wp2)
 go_roundg k2
 case measure => have:=HK1.out;have:=HK2.out;omega
 case rel => exact ⟨((((rd_T23 l0 x7_2).f0).toList == (rdOf ByteArray.empty l1 x5_1).toList)),(wrap64 (x7_2 + 1)),eS,eS,H',⟨by have:=HK1.out;have:=HK2.out;omega⟩,dR⟩
end Go.Proofs.YtaokkkolbifdpaaGreatDoor.Q34
end
