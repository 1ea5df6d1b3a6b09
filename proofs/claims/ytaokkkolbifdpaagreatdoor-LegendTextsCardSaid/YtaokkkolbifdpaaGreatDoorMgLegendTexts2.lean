import Derived.Test.YtaokkkolbifdpaaGreatDoorMgLegendTexts1
import Derived.Test.YtaokkkolbifdpaaGreatDoorProg
import Derived.Below
import Derived.Deep.Draws
import Derived.Deep.AppendLies
import Derived.Maps.AppendAt
import Derived.OwnWalk
import Derived.Laws.BytesArg
import Derived.Laws.MakeOwn
import Derived.Laws.OwnMore
import Derived.Deep.OwnRows
import Derived.Tactics
import Derived.Lib.ConvBytes
import Derived.Laws.Slices
import Derived.WalkKit
import Derived.KernelRfl
import Derived.RowKit3
import Derived.Deep.LoopGhost
import Derived.Deep.QuietTactic
import Derived.BigQuiet
import Derived.WideLaws
import Derived.Deep.DeepCutAuto
import Derived.Deep.CutBlock
import Derived.Deep.RegionHeld3
import Derived.Laws.Rows
import Derived.Lib.AppendStr
import Derived.ArgAppend
import Derived.Laws.IdiomCopy
import Derived.OrdersHeld
import Derived.Laws.BitsLemmas
import Derived.RowKit
import Derived.Test.YtaokkkolbifdpaaGreatDoorMgLegendTexts0
import Derived.IntWalk
import Derived.WalkLawsBesides
import Derived.Shelf.Strings.BuilderF
import Derived.Lib.Hide
set_option linter.unusedVariables false
set_option linter.unusedSimpArgs false
set_option maxHeartbeats 64000000
set_option maxRecDepth 100000
section
namespace Go.Proofs.YtaokkkolbifdpaaGreatDoor.Q7
open Go.RowKit Go.Proofs.YtaokkkolbifdpaaGreatDoorW
open PrintWords PrintLast PrintMore Go.Proofs.YtaokkkolbifdpaaGreatDoor.Hand
attribute [local go_sem] max2_int min2_int max_two min_two max_three min_three max_four min_four
def errW : Option Int → Value
  | none => .nilIface
  | some c => .iface 0 (.int .i64 c)
theorem errW_none : errW none = .nilIface := rfl
theorem errW_some (c : Int) : errW (some c) = .iface 0 (.int .i64 c) := rfl
theorem eqA102 (d : Nat) (w : World) (x0 y0 : Int) (x1 y1 : ByteArray) :
    (Op.equalIn (d + 2) 102 (.agg #[.int .i64 x0,.string x1]) (.agg #[.int .i64 y0,.string y1])).run Tryz.prog w = .ok (x0 == y0 && (x1.toList == y1.toList)) w:=by
 refine eqA_of Tryz.underlying102 (by kernel_rfl) ?_
 refine eqf_cons (by rfl) (by go_simp;rfl) (by go_simp;rfl) (by go_simp) ?_
 exact eqf_last (by rfl) (by go_simp;rfl) (by go_simp;rfl) (by go_simp)
end Go.Proofs.YtaokkkolbifdpaaGreatDoor.Q7
end

section
namespace Go.Proofs.YtaokkkolbifdpaaGreatDoor.Q7
open Go.RowKit Go.Proofs.YtaokkkolbifdpaaGreatDoorW
open PrintWords PrintLast PrintMore Go.Proofs.YtaokkkolbifdpaaGreatDoor.Hand
attribute [local go_sem] max2_int min2_int max_two min_two max_three min_three max_four min_four
attribute [local go_sem high] eqA102
def kind_Right.f (a0_0 : Int) (a0_1 : ByteArray) : Option (Bool) := if a0_0 = 3 then ((word_Class.f a0_1).bind fun t102 => (some t102)) else (if a0_0 = 5 then ((word_Class.f a0_1).bind fun t103 => (some t103)) else (if (a0_1.toList == ([] : List UInt8)) = true then (if a0_0 ≥ 1 then (some (decide (a0_0 ≤ 5))) else (some false)) else (some false)))
theorem kind_Right.calls (a0_0 : Int) (a0_1 : ByteArray) (r : Bool) (w : World) (h : kind_Right.f a0_0 a0_1 = some r) :
    Calls Tryz.prog 129 #[.agg #[.int .i64 a0_0,.string a0_1]] w fun e w' => e = .returned (.bool r) ∧ Below w.heap.size w w':=by
 have hu102:=Tryz.underlying102
 have HB:=aq (Below.refl w.heap.size w)
 have H : (if a0_0 = 3 then ((word_Class.f a0_1).bind fun t102 => (some t102)) else (if a0_0 = 5 then ((word_Class.f a0_1).bind fun t103 => (some t103)) else (if (a0_1.toList == ([] : List UInt8)) = true then (if a0_0 ≥ 1 then (some (decide (a0_0 ≤ 5))) else (some false)) else (some false)))) = some r:=h
 clear h
 by_cases c2 : a0_0 = 3
 · rw [if_pos c2] at H
   have c2b0 : (a0_0 == 3) = true:=beq_iff_eq.mpr c2
   have c2b1 : (a0_0 != 3) = false:=bne_eq_false_iff_eq.mpr c2
   clear c2
   replace H:=Option.bind_eq_some_iff.mp H
   obtain ⟨t102,A30,H⟩:=H
   have A3:=aq A30
   clear A30
   obtain rfl:=Option.some.inj H
   go_enter Tryz.func129,Tryz.ntmps129
   go_wp2_with (first|((with_reducible refine gate_dst (N:=1) rfl ?_);refine box_event rfl (N:=1) rfl (cs:=#[.int .i64 a0_0,.string a0_1]) (t:=102) gS ?_;intro gb101 hg w4 hbox hb;have BK101:=aq (hbox);have GE101:=aq ((GN hg : w.heap.size ≤ gb101));replace HB:=aq (below_step bH hb);clear hb hbox hg;have hcz5_0 : w4.cell? ⟨gb101,0,none⟩ = some (.int .i64 a0_0):=(blk_cell BK101.out 0).trans rfl;have hcz5_1 : w4.cell? ⟨gb101,1,none⟩ = some (.string a0_1):=(blk_cell BK101.out 1).trans rfl;have hfz5_0:=blk_frozen BK101.out 0;have hfz5_1:=blk_frozen BK101.out 1)|((with_reducible refine gate_callee (f:=43) rfl ?_);refine goesL_ (some 10) rfl rfl Tryz.func43 (by kernel_rfl) rfl #[.string a0_1] rfl eA ?_;(with_reducible refine (word_Class.calls a0_1 t102 _ A3.out).mono ?_);rintro e w' ⟨rfl,⟨nd,rfl⟩⟩;refine ⟨_,rfl,?_⟩))
   go_ret
   exact ⟨eR,bH⟩
 rw [if_neg c2] at H
 have c2b0 : (a0_0 == 3) = false:=beq_eq_false_iff_ne.mpr c2
 have c2b1 : (a0_0 != 3) = true:=bne_iff_ne.mpr c2
 by_cases c6 : a0_0 = 5
 · rw [if_pos c6] at H
   have c6b0 : (a0_0 == 5) = true:=beq_iff_eq.mpr c6
   have c6b1 : (a0_0 != 5) = false:=bne_eq_false_iff_eq.mpr c6
   clear c6
   replace H:=Option.bind_eq_some_iff.mp H
   obtain ⟨t103,A70,H⟩:=H
   have A7:=aq A70
   clear A70
   obtain rfl:=Option.some.inj H
   go_enter Tryz.func129,Tryz.ntmps129
   go_wp2_with (first|((with_reducible refine gate_dst (N:=1) rfl ?_);refine box_event rfl (N:=1) rfl (cs:=#[.int .i64 a0_0,.string a0_1]) (t:=102) gS ?_;intro gb101 hg w8 hbox hb;have BK101:=aq (hbox);have GE101:=aq ((GN hg : w.heap.size ≤ gb101));replace HB:=aq (below_step bH hb);clear hb hbox hg;have hcz9_0 : w8.cell? ⟨gb101,0,none⟩ = some (.int .i64 a0_0):=(blk_cell BK101.out 0).trans rfl;have hcz9_1 : w8.cell? ⟨gb101,1,none⟩ = some (.string a0_1):=(blk_cell BK101.out 1).trans rfl;have hfz9_0:=blk_frozen BK101.out 0;have hfz9_1:=blk_frozen BK101.out 1)|((with_reducible refine gate_callee (f:=43) rfl ?_);refine goesL_ (some 10) rfl rfl Tryz.func43 (by kernel_rfl) rfl #[.string a0_1] rfl eA ?_;(with_reducible refine (word_Class.calls a0_1 t103 _ A7.out).mono ?_);rintro e w' ⟨rfl,⟨nd,rfl⟩⟩;refine ⟨_,rfl,?_⟩))
   go_ret
   exact ⟨eR,bH⟩
 rw [if_neg c6] at H
 have c6b0 : (a0_0 == 5) = false:=beq_eq_false_iff_ne.mpr c6
 have c6b1 : (a0_0 != 5) = true:=bne_iff_ne.mpr c6
 by_cases c10 : (a0_1.toList == ([] : List UInt8)) = true
 rotate_left
 · rw [if_neg c10] at H
   have c10b0 : (a0_1.toList == ([] : List UInt8)) = false:=by simpa using c10
   (try (have c10b1 : decide (a0_1.toList = ([] : List UInt8)) = false:=by simpa using c10))
   (try (have c10b2 : (a0_1.toList == ([] : List UInt8)) = false:=by simpa using c10))
   (try (have c10b3 : ¬ (a0_1.toList = ([] : List UInt8)):=by simpa using c10))
   clear c10
   obtain rfl:=Option.some.inj H
   go_enter Tryz.func129,Tryz.ntmps129
   go_wp2_with (first|((with_reducible refine gate_dst (N:=1) rfl ?_);refine box_event rfl (N:=1) rfl (cs:=#[.int .i64 a0_0,.string a0_1]) (t:=102) gS ?_;intro gb101 hg w16 hbox hb;have BK101:=aq (hbox);have GE101:=aq ((GN hg : w.heap.size ≤ gb101));replace HB:=aq (below_step bH hb);clear hb hbox hg;have hcz17_0 : w16.cell? ⟨gb101,0,none⟩ = some (.int .i64 a0_0):=(blk_cell BK101.out 0).trans rfl;have hcz17_1 : w16.cell? ⟨gb101,1,none⟩ = some (.string a0_1):=(blk_cell BK101.out 1).trans rfl;have hfz17_0:=blk_frozen BK101.out 0;have hfz17_1:=blk_frozen BK101.out 1))
   go_ret
   exact ⟨eR,bH⟩
 rw [if_pos c10] at H
 have c10b0 : (a0_1.toList == ([] : List UInt8)) = true:=c10
 (try (have c10b1 : decide (a0_1.toList = ([] : List UInt8)) = true:=by simpa using c10))
 (try (have c10b2 : (a0_1.toList == ([] : List UInt8)) = true:=by simpa using c10))
 clear c10
 by_cases c11 : a0_0 ≥ 1
 · rw [if_pos c11] at H
   have c11b0 : decide (1 ≤ a0_0) = true:=decide_eq_true c11
   clear c11
   obtain rfl:=Option.some.inj H
   go_enter Tryz.func129,Tryz.ntmps129
   go_wp2_with (first|((with_reducible refine gate_dst (N:=1) rfl ?_);refine box_event rfl (N:=1) rfl (cs:=#[.int .i64 a0_0,.string a0_1]) (t:=102) gS ?_;intro gb101 hg w12 hbox hb;have BK101:=aq (hbox);have GE101:=aq ((GN hg : w.heap.size ≤ gb101));replace HB:=aq (below_step bH hb);clear hb hbox hg;have hcz13_0 : w12.cell? ⟨gb101,0,none⟩ = some (.int .i64 a0_0):=(blk_cell BK101.out 0).trans rfl;have hcz13_1 : w12.cell? ⟨gb101,1,none⟩ = some (.string a0_1):=(blk_cell BK101.out 1).trans rfl;have hfz13_0:=blk_frozen BK101.out 0;have hfz13_1:=blk_frozen BK101.out 1))
   go_ret
   exact ⟨eR,bH⟩
 rw [if_neg c11] at H
 have c11b0 : decide (1 ≤ a0_0) = false:=decide_eq_false c11
 clear c11
 obtain rfl:=Option.some.inj H
 go_enter Tryz.func129,Tryz.ntmps129
 go_wp2_with (first|((with_reducible refine gate_dst (N:=1) rfl ?_);refine box_event rfl (N:=1) rfl (cs:=#[.int .i64 a0_0,.string a0_1]) (t:=102) gS ?_;intro gb101 hg w14 hbox hb;have BK101:=aq (hbox);have GE101:=aq ((GN hg : w.heap.size ≤ gb101));replace HB:=aq (below_step bH hb);clear hb hbox hg;have hcz15_0 : w14.cell? ⟨gb101,0,none⟩ = some (.int .i64 a0_0):=(blk_cell BK101.out 0).trans rfl;have hcz15_1 : w14.cell? ⟨gb101,1,none⟩ = some (.string a0_1):=(blk_cell BK101.out 1).trans rfl;have hfz15_0:=blk_frozen BK101.out 0;have hfz15_1:=blk_frozen BK101.out 1))
 go_ret
 exact ⟨eR,bH⟩
def kind_Element.f (a0_0 : Int) (a0_1 : ByteArray) : Option (Int × ByteArray) := if a0_0 = 4 then (some (2, (⟨#[]⟩ : ByteArray))) else (if a0_0 = 5 then (some (3, a0_1)) else (some (0, (⟨#[]⟩ : ByteArray))))
theorem kind_Element.calls (a0_0 : Int) (a0_1 : ByteArray) (r1 : Int) (r2 : ByteArray) (w : World) (h : kind_Element.f a0_0 a0_1 = some (r1, r2)) :
    Calls Tryz.prog 149 #[.agg #[.int .i64 a0_0,.string a0_1]] w fun e w' => e = .returned (.agg #[.int .i64 r1,.string r2]) ∧ Below w.heap.size w w':=by
 have hu102:=Tryz.underlying102
 have HB:=aq (Below.refl w.heap.size w)
 have H : (if a0_0 = 4 then (some (2,(⟨#[]⟩ : ByteArray))) else (if a0_0 = 5 then (some (3,a0_1)) else (some (0,(⟨#[]⟩ : ByteArray))))) = some (r1,r2):=h
 clear h
 by_cases c2 : a0_0 = 4
 · rw [if_pos c2] at H
   have c2b0 : (a0_0 == 4) = true:=beq_iff_eq.mpr c2
   have c2b1 : (a0_0 != 4) = false:=bne_eq_false_iff_eq.mpr c2
   clear c2
   simp only [Option.some.injEq,Prod.mk.injEq] at H
   obtain ⟨rfl,rfl⟩:=H
   go_enter Tryz.func149,Tryz.ntmps149
   go_wp2_with (first|((with_reducible refine gate_dst (N:=1) rfl ?_);refine box_event rfl (N:=1) rfl (cs:=#[.int .i64 a0_0,.string a0_1]) (t:=102) gS ?_;intro gb104 hg w3 hbox hb;have BK104:=aq (hbox);have GE104:=aq ((GN hg : w.heap.size ≤ gb104));replace HB:=aq (below_step bH hb);clear hb hbox hg)|((with_reducible refine gate_dst (N:=2) rfl ?_);refine box_event rfl (N:=2) rfl (cs:=#[.int .i64 0,.string (⟨#[]⟩ : ByteArray)]) (t:=102) gS ?_;intro gb105 hg w4 hbox hb;have BK105:=aq (hbox);have GE105:=aq ((GN hg : w.heap.size ≤ gb105));have NB104_105:=aq (NL hg BK104);have NB105_104:=aq (NG hg BK104);replace BK104:=KN BK104 hb;replace HB:=aq (below_step bH hb);clear hb hbox hg;have hnb5:=NB104_105.out;have hnc5:=NB105_104.out;have hcz6_0 : w4.cell? ⟨gb104,0,none⟩ = some (.int .i64 a0_0):=(blk_cell BK104.out 0).trans rfl;have hcz6_1 : w4.cell? ⟨gb104,1,none⟩ = some (.string a0_1):=(blk_cell BK104.out 1).trans rfl;have hfz6_0:=blk_frozen BK104.out 0;have hfz6_1:=blk_frozen BK104.out 1;have hcz7_0 : w4.cell? ⟨gb105,0,none⟩ = some (.int .i64 0):=(blk_cell BK105.out 0).trans rfl;have hcz7_1 : w4.cell? ⟨gb105,1,none⟩ = some (.string (⟨#[]⟩ : ByteArray)):=(blk_cell BK105.out 1).trans rfl;have hfz7_0:=blk_frozen BK105.out 0;have hfz7_1:=blk_frozen BK105.out 1))
   refine bodyPost_ret (results_cell_row rfl _ _ gb105 102 #[.int .i64 2,.string (⟨#[]⟩ : ByteArray)] (0,0) _ rfl (by refine KU ?_;refine blk_put (cs:=#[.int .i64 2,.string (⟨#[]⟩ : ByteArray)]) ?_ 1 _ rfl;refine KU ?_;refine blk_put (cs:=#[.int .i64 0,.string (⟨#[]⟩ : ByteArray)]) ?_ 0 _ rfl;refine KU ?_;exact BK105.out) Tryz.underlying102 rfl (by kernel_rfl)) rfl ?_
   exact ⟨eR,bH⟩
 rw [if_neg c2] at H
 have c2b0 : (a0_0 == 4) = false:=beq_eq_false_iff_ne.mpr c2
 have c2b1 : (a0_0 != 4) = true:=bne_iff_ne.mpr c2
 by_cases c8 : a0_0 = 5
 · rw [if_pos c8] at H
   have c8b0 : (a0_0 == 5) = true:=beq_iff_eq.mpr c8
   have c8b1 : (a0_0 != 5) = false:=bne_eq_false_iff_eq.mpr c8
   clear c8
   simp only [Option.some.injEq,Prod.mk.injEq] at H
   obtain ⟨rfl,rfl⟩:=H
   go_enter Tryz.func149,Tryz.ntmps149
   go_wp2_with (first|((with_reducible refine gate_dst (N:=1) rfl ?_);refine box_event rfl (N:=1) rfl (cs:=#[.int .i64 a0_0,.string a0_1]) (t:=102) gS ?_;intro gb104 hg w9 hbox hb;have BK104:=aq (hbox);have GE104:=aq ((GN hg : w.heap.size ≤ gb104));replace HB:=aq (below_step bH hb);clear hb hbox hg)|((with_reducible refine gate_dst (N:=2) rfl ?_);refine box_event rfl (N:=2) rfl (cs:=#[.int .i64 0,.string (⟨#[]⟩ : ByteArray)]) (t:=102) gS ?_;intro gb105 hg w10 hbox hb;have BK105:=aq (hbox);have GE105:=aq ((GN hg : w.heap.size ≤ gb105));have NB104_105:=aq (NL hg BK104);have NB105_104:=aq (NG hg BK104);replace BK104:=KN BK104 hb;replace HB:=aq (below_step bH hb);clear hb hbox hg;have hnb11:=NB104_105.out;have hnc11:=NB105_104.out;have hcz12_0 : w10.cell? ⟨gb104,0,none⟩ = some (.int .i64 a0_0):=(blk_cell BK104.out 0).trans rfl;have hcz12_1 : w10.cell? ⟨gb104,1,none⟩ = some (.string a0_1):=(blk_cell BK104.out 1).trans rfl;have hfz12_0:=blk_frozen BK104.out 0;have hfz12_1:=blk_frozen BK104.out 1;have hcz13_0 : w10.cell? ⟨gb105,0,none⟩ = some (.int .i64 0):=(blk_cell BK105.out 0).trans rfl;have hcz13_1 : w10.cell? ⟨gb105,1,none⟩ = some (.string (⟨#[]⟩ : ByteArray)):=(blk_cell BK105.out 1).trans rfl;have hfz13_0:=blk_frozen BK105.out 0;have hfz13_1:=blk_frozen BK105.out 1))
   refine bodyPost_ret (results_cell_row rfl _ _ gb105 102 #[.int .i64 3,.string a0_1] (0,0) _ rfl (by refine KU ?_;refine blk_put (cs:=#[.int .i64 3,.string (⟨#[]⟩ : ByteArray)]) ?_ 1 _ rfl;refine KU ?_;refine blk_put (cs:=#[.int .i64 0,.string (⟨#[]⟩ : ByteArray)]) ?_ 0 _ rfl;refine KU ?_;exact BK105.out) Tryz.underlying102 rfl (by kernel_rfl)) rfl ?_
   exact ⟨eR,bH⟩
 rw [if_neg c8] at H
 have c8b0 : (a0_0 == 5) = false:=beq_eq_false_iff_ne.mpr c8
 have c8b1 : (a0_0 != 5) = true:=bne_iff_ne.mpr c8
 simp only [Option.some.injEq,Prod.mk.injEq] at H
 obtain ⟨rfl,rfl⟩:=H
 go_enter Tryz.func149,Tryz.ntmps149
 go_wp2_with (first|((with_reducible refine gate_dst (N:=1) rfl ?_);refine box_event rfl (N:=1) rfl (cs:=#[.int .i64 a0_0,.string a0_1]) (t:=102) gS ?_;intro gb104 hg w14 hbox hb;have BK104:=aq (hbox);have GE104:=aq ((GN hg : w.heap.size ≤ gb104));replace HB:=aq (below_step bH hb);clear hb hbox hg)|((with_reducible refine gate_dst (N:=2) rfl ?_);refine box_event rfl (N:=2) rfl (cs:=#[.int .i64 0,.string (⟨#[]⟩ : ByteArray)]) (t:=102) gS ?_;intro gb105 hg w15 hbox hb;have BK105:=aq (hbox);have GE105:=aq ((GN hg : w.heap.size ≤ gb105));have NB104_105:=aq (NL hg BK104);have NB105_104:=aq (NG hg BK104);replace BK104:=KN BK104 hb;replace HB:=aq (below_step bH hb);clear hb hbox hg;have hnb16:=NB104_105.out;have hnc16:=NB105_104.out;have hcz17_0 : w15.cell? ⟨gb104,0,none⟩ = some (.int .i64 a0_0):=(blk_cell BK104.out 0).trans rfl;have hcz17_1 : w15.cell? ⟨gb104,1,none⟩ = some (.string a0_1):=(blk_cell BK104.out 1).trans rfl;have hfz17_0:=blk_frozen BK104.out 0;have hfz17_1:=blk_frozen BK104.out 1;have hcz18_0 : w15.cell? ⟨gb105,0,none⟩ = some (.int .i64 0):=(blk_cell BK105.out 0).trans rfl;have hcz18_1 : w15.cell? ⟨gb105,1,none⟩ = some (.string (⟨#[]⟩ : ByteArray)):=(blk_cell BK105.out 1).trans rfl;have hfz18_0:=blk_frozen BK105.out 0;have hfz18_1:=blk_frozen BK105.out 1))
 refine bodyPost_ret (results_cell_row rfl _ _ gb105 102 #[.int .i64 0,.string (⟨#[]⟩ : ByteArray)] (0,0) _ rfl (by refine KU ?_;refine blk_put (cs:=#[.int .i64 0,.string (⟨#[]⟩ : ByteArray)]) ?_ 1 _ rfl;refine KU ?_;refine blk_put (cs:=#[.int .i64 0,.string (⟨#[]⟩ : ByteArray)]) ?_ 0 _ rfl;refine KU ?_;exact BK105.out) Tryz.underlying102 rfl (by kernel_rfl)) rfl ?_
 exact ⟨eR,bH⟩
def kind_param.f (a0_0 : Int) (a0_1 : ByteArray) : Option (Bool) := (kind_Right.f a0_0 a0_1).bind fun t107 => (if t107 = true then (some (a0_0 != 1)) else (some false))
theorem kind_param.calls (a0_0 : Int) (a0_1 : ByteArray) (r : Bool) (w : World) (h : kind_param.f a0_0 a0_1 = some r) :
    Calls Tryz.prog 126 #[.agg #[.int .i64 a0_0,.string a0_1]] w fun e w' => e = .returned (.bool r) ∧ Below w.heap.size w w':=by
 have hu102:=Tryz.underlying102
 have HB:=aq (Below.refl w.heap.size w)
 have H : ((kind_Right.f a0_0 a0_1).bind fun t107 => (if t107 = true then (some (a0_0 != 1)) else (some false))) = some r:=h
 clear h
 replace H:=Option.bind_eq_some_iff.mp H
 obtain ⟨t107,A20,H⟩:=H
 have A2:=aq A20
 clear A20
 by_cases c3 : t107 = true
 rotate_left
 · replace c3:=Bool.eq_false_iff.mpr c3
   subst c3
   have H1 : (some false) = some r:=by rw [if_neg (show ¬ (false = true) by decide)] at H;exact H
   clear H
   have H:=H1
   clear H1
   obtain rfl:=Option.some.inj H
   go_enter Tryz.func126,Tryz.ntmps126
   go_wp2_with (first|((with_reducible refine gate_dst (N:=1) rfl ?_);refine box_event rfl (N:=1) rfl (cs:=#[.int .i64 a0_0,.string a0_1]) (t:=102) gS ?_;intro gb106 hg w8 hbox hb;have BK106:=aq (hbox);have GE106:=aq ((GN hg : w.heap.size ≤ gb106));replace HB:=aq (below_step bH hb);clear hb hbox hg;have hcz9_0 : w8.cell? ⟨gb106,0,none⟩ = some (.int .i64 a0_0):=(blk_cell BK106.out 0).trans rfl;have hcz9_1 : w8.cell? ⟨gb106,1,none⟩ = some (.string a0_1):=(blk_cell BK106.out 1).trans rfl;have hfz9_0:=blk_frozen BK106.out 0;have hfz9_1:=blk_frozen BK106.out 1)|((with_reducible refine gate_callee (f:=129) rfl ?_);refine goesL_ (some 4) rfl rfl Tryz.func129 (by kernel_rfl) rfl #[.agg #[.int .i64 a0_0,.string a0_1]] rfl eA ?_;(with_reducible refine (kind_Right.calls a0_0 a0_1 false _ A2.out).mono ?_);rintro e w10 ⟨rfl,hb⟩;refine ⟨_,rfl,?_⟩;replace BK106:=KN BK106 hb;replace HB:=aq (below_step bH hb);(try clear hb);(try clear hb2);(try clear hk);(try clear hi)))
   go_ret
   exact ⟨eR,bH⟩
 subst c3
 have H1 : (some (a0_0 != 1)) = some r:=by rw [if_pos rfl] at H;exact H
 clear H
 have H:=H1
 clear H1
 obtain rfl:=Option.some.inj H
 go_enter Tryz.func126,Tryz.ntmps126
 go_wp2_with (first|((with_reducible refine gate_dst (N:=1) rfl ?_);refine box_event rfl (N:=1) rfl (cs:=#[.int .i64 a0_0,.string a0_1]) (t:=102) gS ?_;intro gb106 hg w4 hbox hb;have BK106:=aq (hbox);have GE106:=aq ((GN hg : w.heap.size ≤ gb106));replace HB:=aq (below_step bH hb);clear hb hbox hg;have hcz5_0 : w4.cell? ⟨gb106,0,none⟩ = some (.int .i64 a0_0):=(blk_cell BK106.out 0).trans rfl;have hcz5_1 : w4.cell? ⟨gb106,1,none⟩ = some (.string a0_1):=(blk_cell BK106.out 1).trans rfl;have hfz5_0:=blk_frozen BK106.out 0;have hfz5_1:=blk_frozen BK106.out 1)|((with_reducible refine gate_callee (f:=129) rfl ?_);refine goesL_ (some 4) rfl rfl Tryz.func129 (by kernel_rfl) rfl #[.agg #[.int .i64 a0_0,.string a0_1]] rfl eA ?_;(with_reducible refine (kind_Right.calls a0_0 a0_1 true _ A2.out).mono ?_);rintro e w6 ⟨rfl,hb⟩;refine ⟨_,rfl,?_⟩;replace BK106:=KN BK106 hb;replace HB:=aq (below_step bH hb);(try clear hb);(try clear hb2);(try clear hk);(try clear hi);have hcz7_0 : w6.cell? ⟨gb106,0,none⟩ = some (.int .i64 a0_0):=(blk_cell BK106.out 0).trans rfl;have hcz7_1 : w6.cell? ⟨gb106,1,none⟩ = some (.string a0_1):=(blk_cell BK106.out 1).trans rfl;have hfz7_0:=blk_frozen BK106.out 0;have hfz7_1:=blk_frozen BK106.out 1))
 go_ret
 exact ⟨eR,bH⟩
end Go.Proofs.YtaokkkolbifdpaaGreatDoor.Q7
end

section
namespace Go.Proofs.YtaokkkolbifdpaaGreatDoor.Q7
open Go.RowKit Go.Proofs.YtaokkkolbifdpaaGreatDoorW
open PrintWords PrintLast PrintMore Go.Proofs.YtaokkkolbifdpaaGreatDoor.Hand
attribute [local go_sem] max2_int min2_int max_two min_two max_three min_three max_four min_four
end Go.Proofs.YtaokkkolbifdpaaGreatDoor.Q7
end

section
namespace Go.Proofs.YtaokkkolbifdpaaGreatDoor.Hand
open Go.RowKit Go.Shelf Go.Proofs.YtaokkkolbifdpaaGreatDoorW.PrintWords Go.Proofs.YtaokkkolbifdpaaGreatDoorW.PrintLast Go.Proofs.YtaokkkolbifdpaaGreatDoorW.PrintMore
theorem right_eq (k : Int) (c : ByteArray) (hc : c.size ≤ 9223372036854775807) : Q7.kind_Right.f k c = some (rightT classL (k, bl c)) := by
 unfold Q7.kind_Right.f rightT
 have e : word_Class.f c = some (classL (bl c)):=by unfold word_Class.f;rw [if_pos hc];rfl
 rw [e]
 by_cases h3 : k = 3
 ·
  simp [h3]
 ·
  rw [if_neg h3]
  by_cases h5 : k = 5
  ·
   simp [h5]
  ·
   have e2 : (c.toList == ([] : List UInt8)) = decide (bl c = []):=by
    rw [ByteArray.toList_eq]
    unfold bl
    cases c.data.toList with
    | nil => rfl
    | cons x l => rfl
   rw [if_neg h5,e2]
   rw [if_neg (show ¬ ((k,bl c).1 = 3 ∨ (k,bl c).1 = 5) by simp [h3,h5])]
   by_cases hb : bl c = []
   ·
    rw [if_pos (decide_eq_true hb)]
    by_cases h1 : k ≥ 1
    ·
     rw [if_pos h1];simp [hb,h1]
    ·
     rw [if_neg h1];simp [hb,h1]
   ·
    rw [if_neg (by simp [hb])];simp [hb]
theorem kind_right (k : Int) (c : ByteArray) (w : World) (hc : c.size ≤ 9223372036854775807) :
  Calls Tryz.prog 129 #[.agg #[.int .i64 k,.string c]] w fun e w' => e = .returned (.bool (rightT classL (k,bl c))) ∧ Below w.heap.size w w' :=
 Q7.kind_Right.calls k c _ w (right_eq k c hc)
theorem kind_param (k : Int) (c : ByteArray) (w : World) (hc : c.size ≤ 9223372036854775807) :
  Calls Tryz.prog 126 #[.agg #[.int .i64 k,.string c]] w fun e w' => e = .returned (.bool (paramT classL (k,bl c))) ∧ Below w.heap.size w w' :=
 Q7.kind_param.calls k c _ w (by
  unfold Q7.kind_param.f paramT
  rw [right_eq k c hc]
  cases rightT classL (k,bl c) with
  | false => rfl
  | true => by_cases h : k = 1 <;> simp [h])
theorem lb_cat (a b : List UInt8) : lb a ++ lb b = lb (a ++ b) := by
 unfold lb
 apply ByteArray.ext
 simp
theorem ty_below {w w' : World} {g : Nat} {t : Ty} (h : TyAt w g t) (hb : Below w.heap.size w w') : TyAt w' g t := ty_kept h (grown_of_below hb none) (by simp)
theorem text_any (k : Int) (c : ByteArray) (w : World) (hc : c.size ≤ 4611686018427387903)
  (hRec : (k = 4 ∨ k = 5) → ∀ W,Calls Tryz.prog 132 #[.agg #[.int .i64 (k - 2),.string c]] W fun e w' => e = .returned (.string (lb (textT classL (k - 2,bl c)))) ∧ Below W.heap.size W w') :
  Calls Tryz.prog 132 #[.agg #[.int .i64 k,.string c]] w fun e w' => e = .returned (.string (lb (textT classL (k,bl c)))) ∧ Below w.heap.size w w':=by
 have hT0 : TyAt (w.alloc (.cells #[.int .i64 k,.string c] 102)) w.heap.size (k,bl c):=by
  unfold TyAt
  rw [lb_bl]
  exact World.alloc_heap_new _ _
 have HRt:=aq (fun W => kind_right k c W (by omega))
 have HT:=aq hT0
 have hR:=right_cases (cls:=classL) (t:=(k,bl c))
 unfold textT
 cases hr : rightT classL (k,bl c) with
 | false =>
  rw [hr] at HRt
  rw [if_neg (by decide)]
  go_enter Tryz.func132,Tryz.ntmps132
  go_wp2_with (go_at_call 129;refine (HRt.out _).mono ?_;rintro e w1 ⟨rfl,hb⟩)
  go_ret
  exact ⟨rfl,(below_alloc (Below.refl _ _) _).trans (hb.mono (by simp))⟩
 | true =>
  rw [hr] at HRt
  rw [if_pos rfl]
  rcases hR hr with ⟨e1,e2⟩|⟨e1,e2⟩|⟨e1,e2⟩|⟨e1,e2⟩|⟨e1,e2⟩
  ·
   simp only at e1 e2
   subst e1
   go_enter Tryz.func132,Tryz.ntmps132
   go_wp2_with (go_at_call 129;refine (HRt.out _).mono ?_;rintro e w1 ⟨rfl,hb⟩;obtain ⟨c0,c1,f0,f1⟩:=ty_cells (ty_below HT.out hb))
   go_ret
   exact ⟨rfl,(below_alloc (Below.refl _ _) _).trans (hb.mono (by simp))⟩
  ·
   simp only at e1 e2
   subst e1
   go_enter Tryz.func132,Tryz.ntmps132
   go_wp2_with (go_at_call 129;refine (HRt.out _).mono ?_;rintro e w1 ⟨rfl,hb⟩;obtain ⟨c0,c1,f0,f1⟩:=ty_cells (ty_below HT.out hb))
   go_ret
   exact ⟨rfl,(below_alloc (Below.refl _ _) _).trans (hb.mono (by simp))⟩
  ·
   simp only at e1 e2
   subst e1
   have hcat : (⟨#[76]⟩ : ByteArray) ++ c ++ ⟨#[59]⟩ = lb (76 :: (bl c ++ [59])):=by
    have:=congrArg (· ++ lb [59]) (lb_cat [76] (bl c))
    rw [lb_bl] at this
    exact this.trans (lb_cat _ _)
   go_enter Tryz.func132,Tryz.ntmps132
   go_wp2_with (go_at_call 129;refine (HRt.out _).mono ?_;rintro e w1 ⟨rfl,hb⟩;obtain ⟨c0,c1,f0,f1⟩:=ty_cells (ty_below HT.out hb))
   go_ret
   exact ⟨by rw [← hcat];simp,(below_alloc (Below.refl _ _) _).trans (hb.mono (by simp))⟩
  ·
   simp only at e1 e2
   subst e1
   have ec : c = ⟨#[]⟩:=by rw [← lb_bl c,e2];rfl
   subst ec
   have HE:=aq (fun W => Q7.kind_Element.calls 4 ⟨#[]⟩ 2 ⟨#[]⟩ W rfl)
   have HC:=aq (hRec (.inl rfl))
   go_enter Tryz.func132,Tryz.ntmps132
   go_wp2_with (first|(go_at_call 129;refine (HRt.out _).mono ?_;rintro e w1 ⟨rfl,hb⟩;obtain ⟨c0,c1,f0,f1⟩:=ty_cells (ty_below HT.out hb))|(go_at_call 149;refine (HE.out _).mono ?_;rintro e w2 ⟨rfl,hb2⟩)|(go_at_call 132;refine (HC.out _).mono ?_;rintro e w3 ⟨rfl,hb3⟩))
   go_ret
   exact ⟨rfl,(((below_alloc (Below.refl _ _) _).trans (hb.mono (by simp))).trans (hb2.mono (by have:=hb.size;simp at this;omega))).trans (hb3.mono (by have:=hb.size;have:=hb2.size;simp at *;omega))⟩
  ·
   simp only at e1 e2
   subst e1
   have HE:=aq (fun W => Q7.kind_Element.calls 5 c 3 c W rfl)
   have HC:=hRec (.inr rfl)
   have ht3 : textT classL (5 - 2,bl c) = 76 :: (bl c ++ [59]):=by
    unfold textT
    rw [if_pos (by unfold rightT;rw [if_pos (.inl rfl)];exact e2)]
    simp
   rw [ht3] at HC
   replace HC:=aq HC
   have hcat : (⟨#[91]⟩ : ByteArray) ++ lb (76 :: (bl c ++ [59])) = lb (91 :: 76 :: (bl c ++ [59])):=lb_cat [91] _
   have hlen : (lb (76 :: (bl c ++ [59]))).size = c.size + 2:=by
    show (76 :: (bl c ++ [59])).length = _
    simp [bl_len]
   go_enter Tryz.func132,Tryz.ntmps132
   go_wp2_with (first|(go_at_call 129;refine (HRt.out _).mono ?_;rintro e w1 ⟨rfl,hb⟩;obtain ⟨c0,c1,f0,f1⟩:=ty_cells (ty_below HT.out hb))|(go_at_call 149;refine (HE.out _).mono ?_;rintro e w2 ⟨rfl,hb2⟩)|(go_at_call 132;refine (HC.out _).mono ?_;rintro e w3 ⟨rfl,hb3⟩))
   go_ret
   exact ⟨by rw [← hcat];simp,(((below_alloc (Below.refl _ _) _).trans (hb.mono (by simp))).trans (hb2.mono (by have:=hb.size;simp at this;omega))).trans (hb3.mono (by have:=hb.size;have:=hb2.size;simp at *;omega))⟩
theorem kind_text (k : Int) (c : ByteArray) (w : World) (hc : c.size ≤ 4611686018427387903) :
  Calls Tryz.prog 132 #[.agg #[.int .i64 k,.string c]] w fun e w' => e = .returned (.string (lb (textT classL (k,bl c)))) ∧ Below w.heap.size w w' :=
 text_any k c w hc fun h W => text_any (k - 2) c W hc fun h2 W2 => by omega
def toS (t : Ty) : S102 := ⟨t.1, lb t.2⟩
structure Keep2 (W w : World) (p q : Nat) : Prop where
  os : w.os = W.os
  tape : w.tape = W.tape
  output : w.output = W.output
  size : W.heap.size ≤ w.heap.size
  block : ∀ k,k < W.heap.size → k ≠ p → k ≠ q → w.heap[k]? = W.heap[k]?
theorem Keep2.grown {W w w' : World} {p q : Nat} {r : Option Nat} (h : Keep2 W w p q) (hg : w.grownBy w' r) (hr : ∀ k, r = some k → k = p ∨ k = q ∨ W.heap.size ≤ k) : Keep2 W w' p q :=
  ⟨hg.os.trans h.os,hg.tape.trans h.tape,hg.output.trans h.output,Nat.le_trans h.size hg.size,fun k hk hp hq => (hg.block k (Nat.lt_of_lt_of_le hk h.size) (fun e => by rcases hr k e.symm with e1|e1|e1;exact hp e1;exact hq e1;omega)).trans (h.block k hk hp hq)⟩
theorem Keep2.refl (W : World) (p q : Nat) : Keep2 W W p q := ⟨rfl, rfl, rfl, Nat.le_refl _, fun _ _ _ _ => rfl⟩
theorem one_right {l : List UInt8} {t : Ty} {r : List UInt8} (h : oneT classL l = some (t, r)) : rightT classL t = true := by
  cases l with
  | nil => cases h
  | cons x l =>
    unfold oneT at h
    dsimp only at h
    by_cases e : x = 91
    · rw [if_pos e] at h
      exact (flat_back2 h).1
    · rw [if_neg e] at h
      exact (flat_back0 h).1
theorem one_short {l : List UInt8} {t : Ty} {r : List UInt8} (h : oneT classL l = some (t, r)) : t.2.length + r.length < l.length := by
  obtain ⟨h1,h2⟩:=one_back h
  obtain ⟨k,c⟩:=t
  have : c.length < (textT classL (k,c)).length:=by
    unfold textT
    rw [if_pos h1]
    rcases right_cases h1 with ⟨e1,e2⟩|⟨e1,e2⟩|⟨e1,e2⟩|⟨e1,e2⟩|⟨e1,e2⟩ <;> simp only at e1 e2 <;> subst e1 <;> simp [*] <;> omega
  rw [h2]
  simp
  omega
theorem scan_drawnB {w w' : World} {b : Nat} {s : ByteArray} {i : Nat} (h : Scan w b s i) (hd : Below w.heap.size w w') : Scan w' b s i := by
  unfold Scan at h ⊢
  rw [hd.block b (Array.getElem?_eq_some_iff.1 h).1]
  exact h
theorem one_drop {s : ByteArray} {i : Nat} {t : Ty} {r : List UInt8} (h : oneT classL ((bl s).drop i) = some (t, r)) : (bl s).drop (s.size - r.length) = r := by
  obtain ⟨h1,h2⟩:=one_back h
  have h3 : (bl s).take i ++ textT classL t ++ r = bl s:=by rw [List.append_assoc,← h2,List.take_append_drop]
  have h4:=congrArg List.length h3
  rw [List.length_append,bl_len] at h4
  rw [← h3,List.drop_append_of_le_length (by rw [← h4];omega),List.drop_of_length_le (by rw [← h4];omega),List.nil_append]
structure SplitW (W : World) (bp br : Nat) (wr : World) (ps : List Ty) (v : Value) : Prop where
  box : Boxed wr bp 99 v
  row : Kd.R k102 102 wr (W.heap.size + 1) (fun k => W.heap.size < k) v (ps.map toS)
  ret : ∃ t,TyAt wr br t
  keep : Keep2 W wr bp br
  big : W.heap.size + 1 ≤ wr.heap.size
structure SplitI (W : World) (bp br : Nat) (s : ByteArray) (l0 : List UInt8) (k : Nat) (wr : World) (i : Nat) (ps : List Ty) (v : Value) : Prop where
  scan : Scan wr W.heap.size s i
  le : i ≤ s.size
  base : SplitW W bp br wr ps v
  so : typesF classL 65 l0 = (typesF classL k ((bl s).drop i)).map fun p => (ps ++ p.1,p.2)
  cnt : ps.length + k = 65
  adv : ps.length + 1 ≤ i
theorem SplitW.step {W wr w1 : World} {bp br : Nat} {ps : List Ty} {v : Value} (h : SplitW W bp br wr ps v) (hbp : bp < W.heap.size) (hbr : br < W.heap.size) (hg : wr.grownBy w1 (some W.heap.size)) : SplitW W bp br w1 ps v where
  box:=h.box.kept hg (by simp;omega)
  row:=Kd.R_grown h.row hg (fun k hk => by simp;omega)
  ret:=h.ret.imp fun t ht => ty_kept ht hg (by simp;omega)
  keep:=h.keep.grown hg (by simp)
  big:=Nat.le_trans h.big hg.size
theorem Keep2.max {W w : World} {p q : Nat} (h : Keep2 W w p q) (hM : MaxL W) (hp : (0 : Nat) ≠ p) (hq : (0 : Nat) ≠ q) : MaxL w := by
  obtain ⟨m,hm⟩:=hM
  have hl:=World.block_lt_of_cell? W _ hm
  refine ⟨m,?_⟩
  rw [← hm]
  unfold World.cell?
  rw [h.block _ hl hp hq]
def endQ (W : World) (bp br : Nat) (q : List Ty × Ty × Int) (x : Ending) (w' : World) : Prop :=
  Keep2 W w' bp br ∧ (∃ t,TyAt w' br t) ∧ (∃ v,Boxed w' bp 99 v) ∧ if q.2.2 = 0 then x = .returned (.tuple #[]) ∧ TyAt w' br q.2.1 ∧ ∃ v,Boxed w' bp 99 v ∧ Kd.R k102 102 w' (W.heap.size + 1) (fun _ => True) v (q.1.map toS)
    else x = .panicked (WrongE q.2.2)
theorem SplitW.panic {W w : World} {bp br : Nat} {ps : List Ty} {v : Value} (h : SplitW W bp br w ps v) {q : List Ty × Ty × Int} {e : Int} (hq : q = ([], (0, []), e)) (he : e ≠ 0) : endQ W bp br q (.panicked (WrongE e)) w := by
  subst hq
  refine ⟨h.keep,h.ret,⟨_,h.box⟩,?_⟩
  rw [if_neg he]
theorem SplitW.setRet {W w : World} {bp br : Nat} {ps : List Ty} {v : Value} (h : SplitW W bp br w ps v) (hbr : br < W.heap.size) (hpr : bp ≠ br) (k : Int) (c : List UInt8) :
    SplitW W bp br ((w.setCell ⟨br,0,none⟩ (.int .i64 k)).setCell ⟨br,1,none⟩ (.string (lb c))) ps v ∧ TyAt ((w.setCell ⟨br,0,none⟩ (.int .i64 k)).setCell ⟨br,1,none⟩ (.string (lb c))) br (k,c):=by
  obtain ⟨t0,ht0⟩:=h.ret
  have hty:=ty_set ht0 k c
  have hg : w.grownBy ((w.setCell ⟨br,0,none⟩ (.int .i64 k)).setCell ⟨br,1,none⟩ (.string (lb c))) (some br):=(scan_setCell w ⟨br,0,none⟩ _).trans (scan_setCell _ ⟨br,1,none⟩ _)
  exact ⟨{ box:=h.box.kept hg (by simpa using hpr)
           row:=Kd.R_grown h.row hg (fun k hk => by simp;omega)
           ret:=⟨_,hty⟩
           keep:=h.keep.grown hg (by simp)
           big:=Nat.le_trans h.big hg.size },hty⟩
theorem infoTy : (Tryz.prog.info? 102).map (fun i => (i.zero, i.size, i.bytes)) = some (some (.agg #[(.int .i64 0), (.string ⟨#[]⟩)]), 2, 24) := by kernel_rfl
theorem SplitW.push {W w w5 : World} {bp br : Nat} {ps : List Ty} {v v1 : Value} {t : Ty} (h : SplitW W bp br w ps v) (hbp : bp < W.heap.size) (hbr : br < W.heap.size) (hpr : bp ≠ br) (hg : w.grownBy w5 v.ownBlock)
    (ho : Kd.R k102 102 w5 (W.heap.size + 1) (fun k => W.heap.size < k) v1 (ps.map toS ++ [toS t])) : Boxed w5 bp 99 v ∧ SplitW W bp br (w5.setCell ⟨bp,0,none⟩ v1) (ps ++ [t]) v1:=by
  have hv : ∀ k,v.ownBlock = some k → W.heap.size < k:=fun k hk => h.row.1 k hk
  have hb:=h.box.kept hg (fun e => by have:=hv bp e.symm;omega)
  refine ⟨hb,{
    box:=hb.set v1
    row:=by
      rw [List.map_append]
      exact Kd.R_grown ho (grownBy_setCell' w5 bp v1) (fun k hk => by simp;omega)
    ret:=h.ret.imp fun t0 ht => ty_kept (ty_kept ht hg (fun e => by have:=hv br e.symm;omega)) (grownBy_setCell' w5 bp v1) (by simpa using hpr.symm)
    keep:=(h.keep.grown hg (fun k hk => .inr (.inr (Nat.le_of_lt (hv k hk))))).grown (grownBy_setCell' w5 bp v1) (by simp)
    big:=by have:=hg.size;have:=h.big;simp;omega }⟩
theorem scan_push {W w w5 : World} {bp br : Nat} {ps : List Ty} {v v1 : Value} {s : ByteArray} {i : Nat} (h : SplitW W bp br w ps v) (hs : Scan w W.heap.size s i) (hbp : bp < W.heap.size) (hg : w.grownBy w5 v.ownBlock) : Scan (w5.setCell ⟨bp, 0, none⟩ v1) W.heap.size s i := by
  have hv : ∀ k,v.ownBlock = some k → W.heap.size < k:=fun k hk => h.row.1 k hk
  refine scan_far ?_ (by simp;omega) _
  unfold Scan at hs ⊢
  rw [hg.block W.heap.size (Array.getElem?_eq_some_iff.1 hs).1 (fun e => by have:=hv _ e.symm;omega)]
  exact hs
theorem ty_new (w : World) (k : Int) (c : List UInt8) : TyAt (w.alloc (.cells #[.int .i64 k, .string (lb c)] 102)) w.heap.size (k, c) := World.alloc_heap_new _ _
theorem split_body (bs bp br : Nat) (s : ByteArray) (W : World) (hs : W.cell? ⟨bs, 0, none⟩ = some (.string s)) (hP : Boxed W bp 99 (.slice none 0 0)) (hT : TyAt W br (0, [])) (hM : MaxL W) (hgp : (0 : Nat) ≠ bp) (hgr : (0 : Nat) ≠ br) (hpr : bp ≠ br) (hm : s.size ≤ 64) :
    Calls Tryz.prog 121 #[.pointer (some ⟨bs,0,none⟩),.pointer (some ⟨bp,0,none⟩),.pointer (some ⟨br,0,none⟩)] W (endQ W bp br (splitD classL (bl s))):=by
  have hbr : br < W.heap.size:=(Array.getElem?_eq_some_iff.1 hT).1
  have hbp : bp < W.heap.size:=(Array.getElem?_eq_some_iff.1 hP).1
  have hS0 : Scan (W.alloc (.cells #[.string s,.int .i64 0] 139)) W.heap.size s 0:=World.alloc_heap_new _ _
  have hM0:=max_alloc hM (.cells #[.string s,.int .i64 0] 139)
  have hT0:=ty_kept hT (World.grownBy_alloc W (.cells #[.string s,.int .i64 0] 139) none) (by simp)
  have hP0:=hP.alloc (.cells #[.string s,.int .i64 0] 139)
  have hK0 : Keep2 W (W.alloc (.cells #[.string s,.int .i64 0] 139)) bp br:=(Keep2.refl W bp br).grown (World.grownBy_alloc W _ none) (by simp)
  have hgs : (0 : Nat) < W.heap.size:=by
    obtain ⟨m,hmm⟩:=hM
    exact World.block_lt_of_cell? W _ hmm
  have HMX:=aq hM
  have hlen : ¬ (bl s).length > 64:=by rw [bl_len];omega
  have HW0 : Aside0 (SplitW W bp br (W.alloc (.cells #[.string s,.int .i64 0] 139)) [] (.slice none 0 0)):=⟨{
    box:=hP0
    row:=Kd.R_nil _ _ _ _ _
    ret:=⟨_,hT0⟩
    keep:=hK0
    big:=by simp }⟩
  by_cases he : s.size = 0
  · have hb0 : bl s = []:=by
      have:=bl_len s
      rw [he] at this
      exact List.length_eq_zero_iff.1 this
    have HQ : Aside0 (splitD classL (bl s) = ([],(0,[]),1)):=⟨by rw [hb0];rfl⟩
    have HB:=aq (scan_byte_none W.heap.size s 0 _ hS0 (by omega) (by omega))
    clear hS0 hM0 hT0 hP0 hK0 hb0
    go_enter Tryz.func121,Tryz.ntmps121
    go_wp2_with (go_at_call 123;refine HB.out.mono ?_;rintro e w1 ⟨rfl,hg1⟩)
    exact ⟨rfl,(HW0.out.step hbp hbr hg1).panic HQ.out (by decide)⟩
  · have hlt : 0 < s.size:=by omega
    have hd : bl s = s[0] :: (bl s).drop 1:=by have:=drop_cons s 0 hlt;rwa [List.drop_zero] at this
    obtain ⟨x,hx⟩ : ∃ x,s[0] = x:=⟨_,rfl⟩
    have HB:=aq (scan_byte_some W.heap.size s 0 _ hS0 hlt (by omega))
    rw [hx] at HB hd
    have HD:=aq hd
    clear hx
    by_cases hx : x = 40
    · subst hx
      have hsp : Aside0 (splitD classL (bl s) = match typesF classL 65 ((bl s).drop 1) with
        | some (ps,r) => (match oneT classL r with
          | some (t,[]) => if ps.length ≤ 8 then (ps,t,0) else ([],(0,[]),3)
          | _ => ([],(0,[]),1))
        | none => ([],(0,[]),1)):=⟨by
          have hh : (bl s).head? = some 40:=by rw [hd];rfl
          have ht : (bl s).tail = (bl s).drop 1:=by simp
          unfold splitD
          rw [if_neg hlen,if_pos hh,ht]
          rfl⟩
      clear hd
      have HI : Aside0 (∀ w1,(W.alloc (.cells #[.string s,.int .i64 0] 139)).grownBy w1 (some W.heap.size) → Scan w1 W.heap.size s 1 → SplitI W bp br s ((bl s).drop 1) 65 w1 1 [] (.slice none 0 0)):=⟨fun w1 hg hs1 => {
        scan:=hs1
        le:=by omega
        base:={
          box:=hP0.kept hg (by simp;omega)
          row:=Kd.R_nil _ _ _ _ _
          ret:=⟨_,ty_kept hT0 hg (by simp;omega)⟩
          keep:=hK0.grown hg (by simp)
          big:=by have:=hg.size;simp at this;omega }
        so:=by cases typesF classL 65 ((bl s).drop 1) <;> simp
        cnt:=rfl
        adv:=by simp }⟩
      clear hS0 hM0 hT0 hP0 hK0
      go_enter Tryz.func121,Tryz.ntmps121
      go_wp2_with (first|(go_at_call 123;refine HB.out.mono ?_;rintro e w1 ⟨rfl,hs1,hg1⟩;have HI1:=aq (HI.out w1 hg1 hs1))|(go_at_call 122;refine (kind_unless _ _).mono ?_;rintro e w2 ⟨rfl,rfl⟩))
      go_loopg [4] 65 (fun kq v4 wr => ∃ i ps v,Aside0 (SplitI W bp br s ((bl s).drop 1) kq wr i ps v))
      case atStart => exact ⟨1,[],.slice none 0 0,⟨HI1.out⟩⟩
      case round =>
        obtain ⟨i,ps,v,HJ⟩:=hrel
        obtain ⟨gj,rfl⟩ : ∃ j,gk = j + 1:=⟨gk - 1,by have h1:=HJ.out.cnt;have h2:=HJ.out.adv;have h3:=HJ.out.le;omega⟩
        have HO0 : ∀ W',MaxL W' → Scan W' W.heap.size s i → Calls Tryz.prog 125 #[.pointer (some ⟨W.heap.size,0,none⟩)] W' (endS W.heap.size s W' (oneT classL ((bl s).drop i))):=fun W' hM' hS' => scan_one W.heap.size s i W' hM' (by omega) hS' HJ.out.le (by omega)
        by_cases hi : i < s.size
        · have hd:=drop_cons s i hi
          have HSee:=aq (scan_sees_some W.heap.size s i 41 wr HJ.out.scan hi (by omega))
          obtain ⟨y,hy⟩ : ∃ y,s[i] = y:=⟨_,rfl⟩
          rw [hy] at hd HSee
          by_cases hy41 : y = 41
          · subst hy41
            have hso : typesF classL 65 ((bl s).drop 1) = some (ps,(bl s).drop (i + 1)):=by
              have h1:=HJ.out.so
              rw [hd] at h1
              rw [h1]
              simp [typesF]
            have HQ0:=aq (hsp.out.trans (by rw [hso]))
            have HO1 : ∀ W',MaxL W' → Scan W' W.heap.size s (i + 1) → Calls Tryz.prog 125 #[.pointer (some ⟨W.heap.size,0,none⟩)] W' (endS W.heap.size s W' (oneT classL ((bl s).drop (i + 1)))):=fun W' hM' hS' => scan_one W.heap.size s (i + 1) W' hM' (by omega) hS' (by omega) (by omega)
            clear hd hso HO0
            cases ho : oneT classL ((bl s).drop (i + 1)) with
            | none =>
              rw [ho] at HO1
              have HQ : Aside0 (splitD classL (bl s) = ([],(0,[]),1)):=⟨HQ0.out.trans (by dsimp only;rw [ho])⟩
              have HO:=aq HO1
              clear HO1 ho
              go_wp2_with (first|(go_at_call 124;refine HSee.out.mono ?_;rintro e w1 ⟨rfl,hD1⟩;have HW1:=aq (HJ.out.base.step hbp hbr (grown_of_below hD1.below _));have HS1:=aq (scan_drawn HJ.out.scan hD1))|(go_at_call 123;refine (scan_byte_some W.heap.size s i _ HS1.out hi (by omega)).mono ?_;rintro e w2 ⟨rfl,hs2,hg2⟩;have HW2:=aq (HW1.out.step hbp hbr hg2);have HS2:=aq hs2;clear hs2)|(go_at_call 125;refine (HO.out _ (HW2.out.keep.max HMX.out hgp hgr) HS2.out).mono ?_;rintro e w3 ⟨hg3,rfl⟩;have HW3:=aq (HW2.out.step hbp hbr hg3)))
              exact ⟨rfl,HW3.out.panic HQ.out (by decide)⟩
            | some p =>
              obtain ⟨⟨k,c⟩,r⟩:=p
              rw [ho] at HO1
              have hsh:=one_short ho
              rw [List.length_drop,bl_len] at hsh
              dsimp only at hsh
              have HO:=aq HO1
              cases r with
              | cons z r =>
                have HQ : Aside0 (splitD classL (bl s) = ([],(0,[]),1)):=⟨HQ0.out.trans (by dsimp only;rw [ho])⟩
                have HRL : Aside0 (s.size - (z :: r).length ≠ s.size):=⟨by simp at hsh ⊢;omega⟩
                clear HO1 ho hsh
                go_wp2_with (first|(go_at_call 124;refine HSee.out.mono ?_;rintro e w1 ⟨rfl,hD1⟩;have HW1:=aq (HJ.out.base.step hbp hbr (grown_of_below hD1.below _));have HS1:=aq (scan_drawn HJ.out.scan hD1))|(go_at_call 123;refine (scan_byte_some W.heap.size s i _ HS1.out hi (by omega)).mono ?_;rintro e w2 ⟨rfl,hs2,hg2⟩;have HW2:=aq (HW1.out.step hbp hbr hg2);have HS2:=aq hs2;clear hs2)|(go_at_call 125;refine (HO.out _ (HW2.out.keep.max HMX.out hgp hgr) HS2.out).mono ?_;rintro e w3 ⟨hg3,rfl,hs3⟩;have HW3:=aq (HW2.out.step hbp hbr hg3);have HS3:=aq hs3;clear hs3;obtain ⟨t0,ht0⟩:=HW3.out.ret;obtain ⟨c0,c1,f0,f1⟩:=ty_cells ht0)|(go_at_call 127;refine (scan_done_not W.heap.size s _ _ (scan_far (scan_far HS3.out (p:=⟨br,0,none⟩) (by simp;omega) _) (p:=⟨br,1,none⟩) (by simp;omega) _) HRL.out).mono ?_;rintro e w4 ⟨rfl,hg4⟩))
                exact ⟨rfl,((HW3.out.setRet hbr hpr k c).1.step hbp hbr hg4).panic HQ.out (by decide)⟩
              | nil =>
                have HQ1 : Aside0 (splitD classL (bl s) = if ps.length ≤ 8 then (ps,(k,c),0) else ([],(0,[]),3)):=⟨HQ0.out.trans (by dsimp only;rw [ho])⟩
                clear HO1 ho hsh
                by_cases h8 : ps.length ≤ 8
                · have HQ : Aside0 (splitD classL (bl s) = (ps,(k,c),0)):=⟨HQ1.out.trans (if_pos h8)⟩
                  have hd8 : decide ((ps.length : Int) ≤ 8) = true:=decide_eq_true (by omega)
                  have hd9 : decide (ps.length ≤ 8) = true:=decide_eq_true h8
                  go_wp2_with (first|(go_at_call 124;refine HSee.out.mono ?_;rintro e w1 ⟨rfl,hD1⟩;have HW1:=aq (HJ.out.base.step hbp hbr (grown_of_below hD1.below _));have HS1:=aq (scan_drawn HJ.out.scan hD1))|(go_at_call 123;refine (scan_byte_some W.heap.size s i _ HS1.out hi (by omega)).mono ?_;rintro e w2 ⟨rfl,hs2,hg2⟩;have HW2:=aq (HW1.out.step hbp hbr hg2);have HS2:=aq hs2;clear hs2)|(go_at_call 125;refine (HO.out _ (HW2.out.keep.max HMX.out hgp hgr) HS2.out).mono ?_;rintro e w3 ⟨hg3,rfl,hs3⟩;have HW3:=aq (HW2.out.step hbp hbr hg3);have HS3:=aq hs3;clear hs3;obtain ⟨t0,ht0⟩:=HW3.out.ret;obtain ⟨c0,c1,f0,f1⟩:=ty_cells ht0)|(go_at_call 127;refine (scan_done W.heap.size s _ _ (scan_far (scan_far HS3.out (p:=⟨br,0,none⟩) (by simp;omega) _) (p:=⟨br,1,none⟩) (by simp;omega) _) (by simp)).mono ?_;rintro e w4 ⟨rfl,hD4⟩;have HW4:=aq ((HW3.out.setRet hbr hpr k c).1.step hbp hbr (grown_of_below hD4.below _));have HT4:=aq (ty_kept (HW3.out.setRet hbr hpr k c).2 (grown_of_below hD4.below none) (by simp));obtain ⟨A,cp,hv⟩:=Kd.R_slice HW4.out.row;have hbx:=HW4.out.box.cell;rw [hv] at hbx)|(go_at_call 122;refine (kind_unless _ _).mono ?_;rintro e w5 ⟨rfl,rfl⟩))
                  go_end0
                  refine ⟨HW4.out.keep,HW4.out.ret,⟨_,HW4.out.box⟩,?_⟩
                  rw [HQ.out,if_pos rfl]
                  exact ⟨rfl,HT4.out,_,HW4.out.box,Kd.R_mono HW4.out.row (fun _ _ => trivial)⟩
                · have HQ : Aside0 (splitD classL (bl s) = ([],(0,[]),3)):=⟨HQ1.out.trans (if_neg h8)⟩
                  have hd8 : decide ((ps.length : Int) ≤ 8) = false:=decide_eq_false (by omega)
                  have hd9 : decide (ps.length ≤ 8) = false:=decide_eq_false h8
                  go_wp2_with (first|(go_at_call 124;refine HSee.out.mono ?_;rintro e w1 ⟨rfl,hD1⟩;have HW1:=aq (HJ.out.base.step hbp hbr (grown_of_below hD1.below _));have HS1:=aq (scan_drawn HJ.out.scan hD1))|(go_at_call 123;refine (scan_byte_some W.heap.size s i _ HS1.out hi (by omega)).mono ?_;rintro e w2 ⟨rfl,hs2,hg2⟩;have HW2:=aq (HW1.out.step hbp hbr hg2);have HS2:=aq hs2;clear hs2)|(go_at_call 125;refine (HO.out _ (HW2.out.keep.max HMX.out hgp hgr) HS2.out).mono ?_;rintro e w3 ⟨hg3,rfl,hs3⟩;have HW3:=aq (HW2.out.step hbp hbr hg3);have HS3:=aq hs3;clear hs3;obtain ⟨t0,ht0⟩:=HW3.out.ret;obtain ⟨c0,c1,f0,f1⟩:=ty_cells ht0)|(go_at_call 127;refine (scan_done W.heap.size s _ _ (scan_far (scan_far HS3.out (p:=⟨br,0,none⟩) (by simp;omega) _) (p:=⟨br,1,none⟩) (by simp;omega) _) (by simp)).mono ?_;rintro e w4 ⟨rfl,hD4⟩;have HW4:=aq ((HW3.out.setRet hbr hpr k c).1.step hbp hbr (grown_of_below hD4.below _));have HT4:=aq (ty_kept (HW3.out.setRet hbr hpr k c).2 (grown_of_below hD4.below none) (by simp));obtain ⟨A,cp,hv⟩:=Kd.R_slice HW4.out.row;have hbx:=HW4.out.box.cell;rw [hv] at hbx)|(go_at_call 122;refine (kind_unless_not _ _).mono ?_;rintro e w5 ⟨rfl,rfl⟩))
                  exact ⟨rfl,HW4.out.panic HQ.out (by decide)⟩
          · have q41 : ((y.toNat : Int) == 41) = false:=beq_eq_false_iff_ne.2 (fun e => hy41 (byte_of e))
            have hty : typesF classL (gj + 1) ((bl s).drop i) = match oneT classL ((bl s).drop i) with
                | some (t,r) => if t.1 = 1 then none else (typesF classL gj r).map fun p => (t :: p.1,p.2)
                | none => none:=by
              rw [hd,typesF,if_neg (by simpa using hy41)]
              rfl
            cases ho : oneT classL ((bl s).drop i) with
            | none =>
              rw [ho] at HO0 hty
              have HQ : Aside0 (splitD classL (bl s) = ([],(0,[]),1)):=⟨by
                have h1:=HJ.out.so
                rw [hty] at h1
                rw [hsp.out,h1]
                rfl⟩
              have HO:=aq HO0
              clear HO0 ho hd hty
              go_wp2_with (first|(go_at_call 124;refine HSee.out.mono ?_;rintro e w1 ⟨rfl,hD1⟩;have HW1:=aq (HJ.out.base.step hbp hbr (grown_of_below hD1.below _));have HS1:=aq (scan_drawn HJ.out.scan hD1))|(go_at_call 125;refine (HO.out _ (HW1.out.keep.max HMX.out hgp hgr) HS1.out).mono ?_;rintro e w2 ⟨hg2,rfl⟩;have HW2:=aq (HW1.out.step hbp hbr hg2)))
              exact ⟨rfl,HW2.out.panic HQ.out (by decide)⟩
            | some p =>
              obtain ⟨⟨k,c⟩,r⟩:=p
              rw [ho] at HO0 hty
              dsimp only at hty
              have hrt:=one_right ho
              have hcl : (lb c).size ≤ 9223372036854775807:=by
                have h1:=one_short ho
                rw [List.length_drop,bl_len] at h1
                show c.length ≤ _
                dsimp only at h1
                omega
              have HPm0:=fun W' => kind_param k (lb c) W' hcl
              rw [bl_lb,show paramT classL (k,c) = decide (k ≠ 1) by unfold paramT;rw [hrt];simp] at HPm0
              by_cases hk : k = 1
              · subst hk
                rw [if_pos rfl] at hty
                have HQ : Aside0 (splitD classL (bl s) = ([],(0,[]),1)):=⟨by
                  have h1:=HJ.out.so
                  rw [hty] at h1
                  rw [hsp.out,h1]
                  rfl⟩
                have HO:=aq HO0
                have HPm:=aq HPm0
                clear HO0 HPm0 ho hd hty hrt
                go_wp2_with (first|(go_at_call 124;refine HSee.out.mono ?_;rintro e w1 ⟨rfl,hD1⟩;have HW1:=aq (HJ.out.base.step hbp hbr (grown_of_below hD1.below _));have HS1:=aq (scan_drawn HJ.out.scan hD1))|(go_at_call 125;refine (HO.out _ (HW1.out.keep.max HMX.out hgp hgr) HS1.out).mono ?_;rintro e w2 ⟨hg2,rfl,hs2⟩;have HW2:=aq (HW1.out.step hbp hbr hg2);have HS2:=aq hs2;clear hs2)|(go_at_call 126;refine (HPm.out _).mono ?_;rintro e w3 ⟨rfl,hb3⟩;have HB3:=aq hb3;clear hb3)|(go_at_call 122;refine (kind_unless_not _ _).mono ?_;rintro e w4 ⟨rfl,rfl⟩))
                exact ⟨rfl,((HW2.out.step hbp hbr (World.grownBy_alloc _ _ _)).step hbp hbr (grown_of_below HB3.out _)).panic HQ.out (by decide)⟩
              · rw [if_neg hk] at hty
                have HN : Aside0 (∀ wz v1,Scan wz W.heap.size s (s.size - r.length) → SplitW W bp br wz (ps ++ [(k,c)]) v1 → SplitI W bp br s ((bl s).drop 1) gj wz (s.size - r.length) (ps ++ [(k,c)]) v1):=⟨fun wz v1 hsz hwz => {
                  scan:=hsz
                  le:=by omega
                  base:=hwz
                  so:=by
                    have h1:=HJ.out.so
                    rw [hty] at h1
                    rw [h1,one_drop ho]
                    cases typesF classL gj r with
                    | none => rfl
                    | some p => simp
                  cnt:=by have:=HJ.out.cnt;simp;omega
                  adv:=by
                    have h1:=one_short ho
                    have h2:=HJ.out.adv
                    rw [List.length_drop,bl_len] at h1
                    simp at h1 ⊢
                    omega }⟩
                have HL64 : Aside0 (((ps.map toS).length + 1) * 24 ≤ 140737488355328):=⟨by have:=HJ.out.cnt;simp;omega⟩
                have HLN : Aside0 ((ps.map toS ++ [toS (k,c)]).length = ps.length + 1):=⟨by simp⟩
                have HO:=aq HO0
                rw [show decide (k ≠ 1) = true by simpa using hk] at HPm0
                have HPm:=aq HPm0
                obtain ⟨A,cp,hv⟩:=Kd.R_slice HJ.out.base.row
                rw [List.length_map] at hv
                subst hv
                clear HO0 HPm0 ho hd hty hrt hk
                go_wp2_with (first|(go_at_call 124;refine HSee.out.mono ?_;rintro e w1 ⟨rfl,hD1⟩;have HW1:=aq (HJ.out.base.step hbp hbr (grown_of_below hD1.below _));have HS1:=aq (scan_drawn HJ.out.scan hD1))|(go_at_call 125;refine (HO.out _ (HW1.out.keep.max HMX.out hgp hgr) HS1.out).mono ?_;rintro e w2 ⟨hg2,rfl,hs2⟩;have HW2:=aq (HW1.out.step hbp hbr hg2);have HS2:=aq hs2;clear hs2)|(go_at_call 126;refine (HPm.out _).mono ?_;rintro e w3 ⟨rfl,hb3⟩;have HW3:=aq ((HW2.out.step hbp hbr (World.grownBy_alloc _ _ _)).step hbp hbr (grown_of_below hb3 _));have HS3:=aq (scan_drawnB (scan_alloc HS2.out _) hb3);obtain ⟨d0,d1,d2,d3⟩:=ty_cells (ty_below (ty_new w2 k c) hb3);have hbx:=HW3.out.box.cell;clear hb3)|(go_at_call 122;refine (kind_unless _ _).mono ?_;rintro e w4 ⟨rfl,rfl⟩)|((with_reducible refine gate_builtin (b:=.append) (xs:=#[.tmp 20,.tmp 22]) rfl ?_);at_builtin;refine Kd.R_append k102 (w0:=w4) (W.heap.size + 1) rfl (.tmp 20) (.tmp 22) 99 102 (.agg #[(.int .i64 0),(.string ⟨#[]⟩)]) 24 rfl Tryz.underlying99 infoTy rfl (by decide) (by omega) (.slice A ps.length cp) (ps.map toS) (toS (k,c)) [.int .i64 k,.string (lb c)] (fun k => W.heap.size < k) (fun _ => False) rfl (by first|(go_simp;done)|(go_simp;rfl)) ?aP (fun _ hk => hk.elim) ?aF ?aO ?aB ?aS ?aL ?_;(case aP => exact k102_mkM _ _ _ (toS (k,c)));(case aB => exact Below.refl _ _);(case aF => exact (fun k hk => by have:=HW3.out.big;omega));(case aO => exact HW3.out.row);(case aS => exact HW3.out.big);(case aL => exact HL64.out);intro v1 w5 ho hb hg hat;obtain ⟨A1,cp1,hv1⟩:=Kd.R_slice ho;rw [HLN.out] at hv1;subst hv1;obtain ⟨hbx5,hw5⟩:=HW3.out.push hbp hbr hpr hg ho;have HS5:=aq (scan_push (v1:=.slice A1 (ps.length + 1) cp1) HW3.out HS3.out hbp hg);have HW5:=aq hw5;have hbc5:=hbx5.cell;have hbf5:=hbx5.frozen;clear ho hb hg hat hw5 hbx))
                go_roundg gj
                case measure => omega
                case rel => exact ⟨_,_,_,⟨HN.out _ _ HS5.out HW5.out⟩⟩
        · have hdn : (bl s).drop i = []:=by rw [List.drop_eq_nil_iff,bl_len];omega
          have HE:=aq (show s.size ≤ i by omega)
          have HQ : Aside0 (splitD classL (bl s) = ([],(0,[]),1)):=⟨by
            have h1:=HJ.out.so
            rw [hdn] at h1
            rw [hsp.out,h1]
            rfl⟩
          have hz : oneT classL [] = none:=rfl
          rw [hdn,hz] at HO0
          have HO:=aq HO0
          clear HO0 hdn hz hi
          go_wp2_with (first|(go_at_call 124;refine (scan_sees_none W.heap.size s i 41 wr HJ.out.scan HE.out (by have:=HJ.out.le;omega)).mono ?_;rintro e w1 ⟨rfl,hD1⟩;have HW1:=aq (HJ.out.base.step hbp hbr (grown_of_below hD1.below _));have HS1:=aq (scan_drawn HJ.out.scan hD1))|(go_at_call 125;refine (HO.out _ (HW1.out.keep.max HMX.out hgp hgr) HS1.out).mono ?_;rintro e w2 ⟨hg2,rfl⟩;have HW2:=aq (HW1.out.step hbp hbr hg2)))
          exact ⟨rfl,HW2.out.panic HQ.out (by decide)⟩
    · have HQ : Aside0 (splitD classL (bl s) = ([],(0,[]),1)):=⟨by
        have hh : (bl s).head? ≠ some 40:=by rw [hd];simpa using hx
        unfold splitD
        rw [if_neg hlen,if_neg hh]⟩
      have q40 : ((x.toNat : Int) == 40) = false:=beq_eq_false_iff_ne.2 (fun e => hx (byte_of e))
      clear hS0 hM0 hT0 hP0 hK0 hd
      go_enter Tryz.func121,Tryz.ntmps121
      go_wp2_with (first|(go_at_call 123;refine HB.out.mono ?_;rintro e w1 ⟨rfl,hs1,hg1⟩)|(go_at_call 122;refine (kind_unless_not _ _).mono ?_;rintro e w2 ⟨rfl,rfl⟩))
      exact ⟨rfl,(HW0.out.step hbp hbr hg1).panic HQ.out (by decide)⟩
theorem split_end {w W2 : World} {bp br B : Nat} {v v' : Value} {ps : List Ty} {t0 t : Ty} (hp : w.heap.size ≤ bp) (hr : w.heap.size ≤ br) (hpr : bp ≠ br) (hpB : bp < B) (hrB : br < B) (hbx : Boxed W2 bp 99 v') (hty : TyAt W2 br t0)
  (hrow : Kd.R k102 102 W2 B (fun _ => True) v (ps.map toS)) (hw : Below w.heap.size w W2) :
  ∀ X,(X = ((W2.setCell ⟨bp,0,none⟩ v).setCell ⟨br,0,none⟩ (.int .i64 t.1)).setCell ⟨br,1,none⟩ (.string (lb t.2)) ∨ X = ((W2.setCell ⟨br,0,none⟩ (.int .i64 t.1)).setCell ⟨br,1,none⟩ (.string (lb t.2))).setCell ⟨bp,0,none⟩ v) →
   X.cell? ⟨bp,0,none⟩ = some v ∧ X.cell? ⟨br,0,none⟩ = some (.int .i64 t.1) ∧ X.cell? ⟨br,1,none⟩ = some (.string (lb t.2)) ∧ Kd.R k102 102 X w.heap.size (fun _ => True) v (ps.map toS) ∧ Below w.heap.size w X:=by
 have hne : ∀ k,B ≤ k → k ≠ bp ∧ k ≠ br:=fun k hk => ⟨by omega,by omega⟩
 have hrow':=Kd.R_mono (Kd.R_bound hrow) (ok':=fun k => B ≤ k) (fun k hk => hk.2.1)
 have hwB : w.heap.size ≤ B:=by omega
 rintro X (rfl|rfl)
 ·
  have g1 : TyAt ((W2.setCell ⟨bp,0,none⟩ v)) br t0:=ty_kept hty (scan_setCell W2 ⟨bp,0,none⟩ v) (by simpa using hpr.symm)
  have g2:=ty_set g1 t.1 t.2
  obtain ⟨c0,c1,_,_⟩:=ty_cells g2
  have b1:=((hbx.set v).kept (scan_setCell _ ⟨br,0,none⟩ (.int .i64 t.1)) (by simpa using hpr)).kept (scan_setCell _ ⟨br,1,none⟩ (.string (lb t.2))) (by simpa using hpr)
  refine ⟨b1.cell,c0,c1,?_,?_⟩
  ·
   exact Kd.R_mono (Kd.R_lower (Kd.R_far (p:=⟨br,1,none⟩) (Kd.R_far (p:=⟨br,0,none⟩) (Kd.R_far (p:=⟨bp,0,none⟩) hrow' (fun k hk => (hne k hk).1) _) (fun k hk => (hne k hk).2) _) (fun k hk => (hne k hk).2) _) hwB) (fun _ _ => trivial)
  ·
   exact ((hw.setCell (p:=⟨bp,0,none⟩) hp _).setCell (p:=⟨br,0,none⟩) hr _).setCell (p:=⟨br,1,none⟩) hr _
 ·
  have g2:=ty_kept (ty_set hty t.1 t.2) (scan_setCell _ ⟨bp,0,none⟩ v) (by simpa using hpr.symm)
  obtain ⟨c0,c1,_,_⟩:=ty_cells g2
  have b1:=Boxed.set v ((hbx.kept (scan_setCell _ ⟨br,0,none⟩ (.int .i64 t.1)) (by simpa using hpr)).kept (scan_setCell _ ⟨br,1,none⟩ (.string (lb t.2))) (by simpa using hpr))
  refine ⟨b1.cell,c0,c1,?_,?_⟩
  ·
   exact Kd.R_mono (Kd.R_lower (Kd.R_far (p:=⟨bp,0,none⟩) (Kd.R_far (p:=⟨br,1,none⟩) (Kd.R_far (p:=⟨br,0,none⟩) hrow' (fun k hk => (hne k hk).2) _) (fun k hk => (hne k hk).2) _) (fun k hk => (hne k hk).1) _) hwB) (fun _ _ => trivial)
  ·
   exact ((hw.setCell (p:=⟨br,0,none⟩) hr _).setCell (p:=⟨br,1,none⟩) hr _).setCell (p:=⟨bp,0,none⟩) hp _
theorem Keep2.below {w W X : World} {p q : Nat} (h : Keep2 W X p q) (hw : Below w.heap.size w W) (hp : w.heap.size ≤ p) (hq : w.heap.size ≤ q) : Below w.heap.size w X :=
 ⟨h.os.trans hw.os,h.tape.trans hw.tape,h.output.trans hw.output,Nat.le_trans hw.size h.size,fun k hk => (h.block k (Nat.lt_of_lt_of_le hk hw.size) (by omega) (by omega)).trans (hw.block k hk)⟩
theorem split_err {l : List UInt8} {ps : List Ty} {t : Ty} {e : Int} (h : splitD classL l = (ps, t, e)) : e = 0 ∨ (ps = [] ∧ t = (0, []) ∧ (e = 1 ∨ e = 3)) := by
 unfold splitD at h
 split at h
 ·
  cases h;exact .inr ⟨rfl,rfl,.inr rfl⟩
 ·
  split at h
  ·
   split at h
   ·
    split at h
    ·
     split at h
     ·
      cases h;exact .inl rfl
     ·
      cases h;exact .inr ⟨rfl,rfl,.inr rfl⟩
    ·
     cases h;exact .inr ⟨rfl,rfl,.inl rfl⟩
   ·
    cases h;exact .inr ⟨rfl,rfl,.inl rfl⟩
  ·
   cases h;exact .inr ⟨rfl,rfl,.inl rfl⟩
def endSp (W : World) (q : List Ty × Ty × Int) (x : Ending) (w' : World) : Prop :=
 ∃ v,x = .returned (.tuple #[v,.agg #[.int .i64 q.2.1.1,.string (lb q.2.1.2)],.int .i64 q.2.2]) ∧ Kd.R k102 102 w' W.heap.size (fun _ => True) v (q.1.map toS) ∧ Below W.heap.size W w'
theorem kind_split (s : ByteArray) (W : World) (hM : MaxL W) (hm : s.size ≤ 1048576) :
  Calls Tryz.prog 101 #[.string s] W (endSp W (splitD classL (bl s))):=by
 have hmf : ∀ (fn : Fn) (first cap : Array Value) (w : World),(Instr.makeFunc fn first cap).run Tryz.prog w = .ok (.func fn first cap) w:=fun _ _ _ _ => rfl
 by_cases hbig : 64 < s.size
 ·
  have hsp : splitD classL (bl s) = ([],(0,[]),3):=by
   unfold splitD
   rw [if_pos (by rw [bl_len];exact hbig)]
  rw [hsp]
  have hd1 : decide ((64 : Int) < (s.size : Int)) = true:=decide_eq_true (by omega)
  have hd2 : decide (64 < s.size) = true:=decide_eq_true hbig
  go_enter Tryz.func101,Tryz.ntmps101
  go_wp2
  refine ⟨rfl,.tuple #[.slice none 0 0,.agg #[.int .i64 0,.string ⟨#[]⟩],.int .i64 3],by simp [results,Tryz.results101,go_sem],_,rfl,Kd.R_nil _ _ _ _ _,?_⟩
  first
   | exact below_alloc (below_alloc (below_alloc (Below.refl _ _) _) _) _
   | trace_state
 ·
  have hd1 : decide ((64 : Int) < (s.size : Int)) = false:=decide_eq_false (by omega)
  have hd2 : decide (64 < s.size) = false:=decide_eq_false hbig
  have hM64 : s.size ≤ 64:=by omega
  clear hbig
  obtain ⟨W1,hW1⟩ : ∃ W1,W1 = ((W.alloc (.cells #[.string s] 9)).alloc (.cells #[.slice none 0 0] 99)).alloc (.cells #[.int .i64 0,.string ⟨#[]⟩] 102):=⟨_,rfl⟩
  have hz1 : W1.heap.size = W.heap.size + 3:=by rw [hW1];simp
  have hB1 : Boxed W1 W.heap.size 9 (.string s):=by rw [hW1];exact ((Boxed.new W 9 (.string s)).alloc _).alloc _
  have hP1 : Boxed W1 (W.heap.size + 1) 99 (.slice none 0 0):=by
   have:=(Boxed.new (W.alloc (.cells #[.string s] 9)) 99 (.slice none 0 0)).alloc (.cells #[.int .i64 0,.string ⟨#[]⟩] 102)
   rw [World.size_alloc] at this
   rw [hW1];exact this
  have hT1 : TyAt W1 (W.heap.size + 2) (0,[]):=by
   have:=World.alloc_heap_new ((W.alloc (.cells #[.string s] 9)).alloc (.cells #[.slice none 0 0] 99)) (.cells #[.int .i64 0,.string ⟨#[]⟩] 102)
   rw [World.size_alloc,World.size_alloc] at this
   rw [hW1];exact this
  have hG1 : Below W.heap.size W W1:=by rw [hW1];exact below_alloc (below_alloc (below_alloc (Below.refl _ _) _) _) _
  have hM1 : MaxL W1:=max_below hM hG1
  have hgs : (0 : Nat) < W.heap.size:=by
   obtain ⟨m,hmm⟩:=hM
   exact World.block_lt_of_cell? W _ hmm
  have hGE : Below W.heap.size W (W1.alloc (.cells #[.int .i64 0] 36)):=below_alloc hG1 _
  have hE : ∀ w',Keep2 (W1.alloc (.cells #[.int .i64 0] 36)) w' (W.heap.size + 1) (W.heap.size + 2) → w'.cell? ⟨W1.heap.size,0,none⟩ = some (.int .i64 0) ∧ w'.frozen? ⟨W1.heap.size,0,none⟩ = false:=fun w' hk => by
   have hb : Boxed w' W1.heap.size 36 (.int .i64 0):=(hk.block W1.heap.size (by simp) (by omega) (by omega)).trans (Boxed.new W1 36 (.int .i64 0))
   exact ⟨hb.cell,hb.frozen⟩
  have hP:=split_body W.heap.size (W.heap.size + 1) (W.heap.size + 2) s (W1.alloc (.cells #[.int .i64 0] 36)) (hB1.alloc _).cell (hP1.alloc _) (ty_kept hT1 (World.grownBy_alloc W1 _ none) (by simp)) (max_alloc hM1 _) (by omega) (by omega) (by omega) hM64
  have hen:=fun W => enters_ Tryz.func121 (by kernel_rfl) rfl #[.pointer (some ⟨W1.heap.size - 3,0,none⟩),.pointer (some ⟨W1.heap.size - 2,0,none⟩),.pointer (some ⟨W1.heap.size - 1,0,none⟩)] W
  have hs3 : W1.heap.size - 3 = W.heap.size:=by omega
  have hs2 : W1.heap.size - 2 = W.heap.size + 1:=by omega
  have hs1 : W1.heap.size - 1 = W.heap.size + 2:=by omega
  rw [hs1,hs2,hs3] at hen
  obtain ⟨ps,t,e,hq⟩ : ∃ ps t e,splitD classL (bl s) = (ps,t,e):=⟨_,_,_,rfl⟩
  rw [hq] at hP ⊢
  by_cases h0 : e = 0
  ·
   subst h0
   have HC:=aq ((caught_ok 121 _ W1 (fun w' => Keep2 (W1.alloc (.cells #[.int .i64 0] 36)) w' (W.heap.size + 1) (W.heap.size + 2) ∧ TyAt w' (W.heap.size + 2) t ∧ ∃ v,Boxed w' (W.heap.size + 1) 99 v ∧ Kd.R k102 102 w' ((W1.alloc (.cells #[.int .i64 0] 36)).heap.size + 1) (fun _ => True) v (ps.map toS)) hen (hP.mono fun x w' ⟨h1,_,_,h4⟩ => by
    rw [if_pos rfl] at h4
    exact ⟨h4.1,h1,h4.2.1,h4.2.2⟩) (fun w' h => hE w' h.1)).mono
    (show ∀ x w',_ → x = .returned (.int .i64 0) ∧ Below W.heap.size W w' ∧ TyAt w' (W.heap.size + 2) t ∧ ∃ v,Boxed w' (W.heap.size + 1) 99 v ∧ Kd.R k102 102 w' (W.heap.size + 5) (fun _ => True) v (ps.map toS) from fun x w' ⟨h1,w1,⟨h2,h3,v,h4,h5⟩,h6⟩ => by
     subst h6
     rw [World.size_alloc,hz1] at h5
     refine ⟨h1,(h2.below hGE (by omega) (by omega)).setCell (p:=⟨W1.heap.size,0,none⟩) (by simp;omega) _,ty_kept h3 (scan_setCell w1 ⟨W1.heap.size,0,none⟩ _) (by simp;omega),v,h4.kept (scan_setCell w1 ⟨W1.heap.size,0,none⟩ _) (by simp;omega),?_⟩
     exact Kd.R_mono (Kd.R_far (p:=⟨W1.heap.size,0,none⟩) (Kd.R_mono (Kd.R_bound h5) (ok':=fun k => W.heap.size + 5 ≤ k) (fun k hk => hk.2.1)) (fun k hk => by simp;omega) _) (fun _ _ => trivial)))
   clear hP hen hE hT1 hB1 hP1 hq
   go_enter Tryz.func101,Tryz.ntmps101
   go_wp2_with (go_at_call 120;rw [← hW1];refine HC.out.mono ?_;rintro e w2 ⟨rfl,hb2,ht2,v,hbx,hrow⟩;have HEnd:=aq (split_end (w:=W) (bp:=W.heap.size + 1) (br:=W.heap.size + 1 + 1) (t:=t) (by omega) (by omega) (by omega) (by omega) (by omega) hbx ht2 hrow hb2);obtain ⟨A,cp,hv⟩:=Kd.R_slice hrow;rw [List.length_map] at hv;subst hv;obtain ⟨c0,c1,f0,f1⟩:=ty_cells ht2;have c2:=hbx.cell;have f2:=hbx.frozen;clear hb2 ht2 hbx hrow)
   go_region
   all_goals go_wp2
   obtain ⟨q0,q1,q2,q3,q4⟩:=HEnd.out _ (.inl rfl)
   refine ⟨rfl,.tuple #[.slice A ps.length cp,.agg #[.int .i64 t.1,.string (lb t.2)],.int .i64 0],by simp [results,Tryz.results101,go_sem,q0,q1,q2],_,rfl,Kd.R_drew q3,below_drew q4⟩
  ·
   obtain ⟨rfl,rfl,he⟩:=(split_err hq).resolve_left h0
   have HC:=aq ((caught_not 121 _ W1 e (fun w' => Keep2 (W1.alloc (.cells #[.int .i64 0] 36)) w' (W.heap.size + 1) (W.heap.size + 2) ∧ (∃ t,TyAt w' (W.heap.size + 2) t) ∧ ∃ v,Boxed w' (W.heap.size + 1) 99 v) hen (hP.mono fun x w' ⟨h1,h2,h3,h4⟩ => by
    rw [if_neg h0] at h4
    exact ⟨h4,h1,h2,h3⟩) (fun w' h => hE w' h.1)).mono
    (show ∀ x w',_ → x = .returned (.int .i64 e) ∧ Below W.heap.size W w' ∧ (∃ t,TyAt w' (W.heap.size + 2) t) ∧ ∃ v,Boxed w' (W.heap.size + 1) 99 v from fun x w' ⟨h1,w1,⟨h2,⟨t,h3⟩,v,h4⟩,h6⟩ => by
     subst h6
     refine ⟨h1,(below_alloc (h2.below hGE (by omega) (by omega)) _).setCell (p:=⟨W1.heap.size,0,none⟩) (by simp;omega) _,⟨t,?_⟩,v,?_⟩
     ·
      exact ty_kept (ty_kept h3 (World.grownBy_alloc w1 _ none) (by simp)) (scan_setCell _ ⟨W1.heap.size,0,none⟩ _) (by simp;omega)
     ·
      exact (h4.alloc _).kept (scan_setCell _ ⟨W1.heap.size,0,none⟩ _) (by simp;omega)))
   clear hP hen hE hT1 hB1 hP1 hq h0
   rcases he with rfl|rfl
   all_goals go_enter Tryz.func101,Tryz.ntmps101
   all_goals go_wp2_with (go_at_call 120;rw [← hW1];refine HC.out.mono ?_;rintro e w2 ⟨rfl,hb2,⟨t0,ht2⟩,v,hbx⟩;have HEnd:=aq (split_end (w:=W) (bp:=W.heap.size + 1) (br:=W.heap.size + 1 + 1) (B:=W.heap.size + 5) (ps:=[]) (v:=.slice none 0 0) (t:=(0,[])) (by omega) (by omega) (by omega) (by omega) (by omega) hbx ht2 (Kd.R_nil _ _ _ _ _) hb2);obtain ⟨c0,c1,f0,f1⟩:=ty_cells ht2;have c2:=hbx.cell;have f2:=hbx.frozen;clear hb2 ht2 hbx)
   ·
    have hx:=HEnd.out (((w2.setCell ⟨W.heap.size + 1,0,none⟩ (.slice none 0 0)).setCell ⟨W.heap.size + 1 + 1,0,none⟩ (.int .i64 0)).setCell ⟨W.heap.size + 1 + 1,1,none⟩ (.string ⟨#[]⟩)) (.inl rfl)
    have q0 : (((w2.setCell ⟨W.heap.size + 1,0,none⟩ (.slice none 0 0)).setCell ⟨W.heap.size + 1 + 1,0,none⟩ (.int .i64 0)).setCell ⟨W.heap.size + 1 + 1,1,none⟩ (.string ⟨#[]⟩)).cell? ⟨W.heap.size + 1,0,none⟩ = some (.slice none 0 0):=hx.1
    have q1 : (((w2.setCell ⟨W.heap.size + 1,0,none⟩ (.slice none 0 0)).setCell ⟨W.heap.size + 1 + 1,0,none⟩ (.int .i64 0)).setCell ⟨W.heap.size + 1 + 1,1,none⟩ (.string ⟨#[]⟩)).cell? ⟨W.heap.size + 1 + 1,0,none⟩ = some (.int .i64 0):=hx.2.1
    have q2 : (((w2.setCell ⟨W.heap.size + 1,0,none⟩ (.slice none 0 0)).setCell ⟨W.heap.size + 1 + 1,0,none⟩ (.int .i64 0)).setCell ⟨W.heap.size + 1 + 1,1,none⟩ (.string ⟨#[]⟩)).cell? ⟨W.heap.size + 1 + 1,1,none⟩ = some (.string ⟨#[]⟩):=hx.2.2.1
    refine ⟨rfl,.tuple #[.slice none 0 0,.agg #[.int .i64 0,.string ⟨#[]⟩],.int .i64 1],by simp [results,Tryz.results101,go_sem,q0,q1,q2],_,rfl,hx.2.2.2.1,hx.2.2.2.2⟩
   ·
    have hx:=HEnd.out (((w2.setCell ⟨W.heap.size + 1,0,none⟩ (.slice none 0 0)).setCell ⟨W.heap.size + 1 + 1,0,none⟩ (.int .i64 0)).setCell ⟨W.heap.size + 1 + 1,1,none⟩ (.string ⟨#[]⟩)) (.inl rfl)
    have q0 : (((w2.setCell ⟨W.heap.size + 1,0,none⟩ (.slice none 0 0)).setCell ⟨W.heap.size + 1 + 1,0,none⟩ (.int .i64 0)).setCell ⟨W.heap.size + 1 + 1,1,none⟩ (.string ⟨#[]⟩)).cell? ⟨W.heap.size + 1,0,none⟩ = some (.slice none 0 0):=hx.1
    have q1 : (((w2.setCell ⟨W.heap.size + 1,0,none⟩ (.slice none 0 0)).setCell ⟨W.heap.size + 1 + 1,0,none⟩ (.int .i64 0)).setCell ⟨W.heap.size + 1 + 1,1,none⟩ (.string ⟨#[]⟩)).cell? ⟨W.heap.size + 1 + 1,0,none⟩ = some (.int .i64 0):=hx.2.1
    have q2 : (((w2.setCell ⟨W.heap.size + 1,0,none⟩ (.slice none 0 0)).setCell ⟨W.heap.size + 1 + 1,0,none⟩ (.int .i64 0)).setCell ⟨W.heap.size + 1 + 1,1,none⟩ (.string ⟨#[]⟩)).cell? ⟨W.heap.size + 1 + 1,1,none⟩ = some (.string ⟨#[]⟩):=hx.2.2.1
    refine ⟨rfl,.tuple #[.slice none 0 0,.agg #[.int .i64 0,.string ⟨#[]⟩],.int .i64 3],by simp [results,Tryz.results101,go_sem,q0,q1,q2],_,rfl,hx.2.2.2.1,hx.2.2.2.2⟩
def kind_Right.f (k : Int) (c : ByteArray) : Option Bool := if c.size ≤ 4611686018427387903 then some (rightT classL (k, bl c)) else none
theorem kind_Right.calls (a0_0 : Int) (a0_1 : ByteArray) (r : Bool) (w : World) (h : kind_Right.f a0_0 a0_1 = some r) :
  Calls Tryz.prog 129 #[.agg #[.int .i64 a0_0,.string a0_1]] w fun e w' => e = .returned (.bool r) ∧ Below w.heap.size w w':=by
 unfold kind_Right.f at h
 split at h
 ·
  cases h
  exact kind_right a0_0 a0_1 w (by omega)
 ·
  cases h
def kind_param.f (k : Int) (c : ByteArray) : Option Bool := if c.size ≤ 4611686018427387903 then some (paramT classL (k, bl c)) else none
theorem kind_param.calls (a0_0 : Int) (a0_1 : ByteArray) (r : Bool) (w : World) (h : kind_param.f a0_0 a0_1 = some r) :
  Calls Tryz.prog 126 #[.agg #[.int .i64 a0_0,.string a0_1]] w fun e w' => e = .returned (.bool r) ∧ Below w.heap.size w w':=by
 unfold kind_param.f at h
 split at h
 ·
  cases h
  exact kind_param a0_0 a0_1 w (by omega)
 ·
  cases h
def kind_Split.f (s : ByteArray) : Option (List (S102) × Int × ByteArray × Int) := if s.size ≤ 1048576 then some ((splitD classL (bl s)).1.map toS, (splitD classL (bl s)).2.1.1, lb (splitD classL (bl s)).2.1.2, (splitD classL (bl s)).2.2) else none
theorem kind_Split.calls (a0 : ByteArray) (r1 : List (S102)) (r2 : Int) (r3 : ByteArray) (r4 : Int) (w : World) (hGMaxL : MaxL w) (h : kind_Split.f a0 = some (r1, r2, r3, r4)) :
  Calls Tryz.prog 101 #[.string a0] w fun e w' => ∃ v0_ : Value,e = .returned (.tuple #[v0_,.agg #[.int .i64 r2,.string r3],.int .i64 r4]) ∧ Kd.R k102 102 w' w.heap.size (fun _ => True) v0_ r1 ∧ Below w.heap.size w w':=by
 unfold kind_Split.f at h
 split at h
 ·
  cases h
  exact (kind_split a0 w hGMaxL (by omega)).mono fun x w' ⟨v,h1,h2,h3⟩ => ⟨v,h1,h2,h3⟩
 ·
  cases h
def ofS (x : S102) : Ty := (x.f0, bl x.f1)
def badS (x : S102) : Bool := !paramT classL (ofS x)
theorem desc_bad (x : S102) (w : World) (hc : x.f1.size ≤ 4611686018427387903) :
  Calls Tryz.prog 131 #[.agg #[.int .i64 x.f0,.string x.f1]] w fun e w' => e = .returned (.bool (badS x)) ∧ Below w.heap.size w w':=by
 have HP:=aq (fun W => kind_param x.f0 x.f1 W (by omega))
 go_enter Tryz.func131,Tryz.ntmps131
 go_wp2_with (go_at_call 126;refine (HP.out _).mono ?_;rintro e w1 ⟨rfl,hb⟩)
 go_ret
 exact ⟨rfl,by first|exact (below_alloc (Below.refl _ _) _).trans (hb.mono (by simp))|exact hb⟩
theorem index_bad (A : Option Addr) (c : Nat) (xs : List (S102)) (w : World) (hC : Kd.C k102 w A xs.length xs) (hc : xs.length ≤ c) (hl : xs.length ≤ 1048576) (hs : ∀ x ∈ xs, x.f1.size ≤ 4611686018427387903) :
  Calls Tryz.prog 148 #[.slice A xs.length c,.func (.func 131) #[] #[]] w fun e w' => ∃ j : Int,e = .returned (.int .i64 j) ∧ (decide (0 ≤ j) = xs.any badS) ∧ Below w.heap.size w w':=by
 have HC:=aq hC
 have HS:=aq hs
 clear hC hs
 go_enter Tryz.func148,Tryz.ntmps148
 go_wp2
 go_loopg [8] xs.length (fun kq v8 wr => ∃ i : Nat,v8 = .int .i64 (i : Int) ∧ i + kq = xs.length ∧ Aside0 (∀ j (hj : j < xs.length),j < i → badS xs[j] = false) ∧ Aside0 (Below w.heap.size w wr))
 case atStart => exact ⟨0,rfl,by omega,⟨fun j _ h => absurd h (Nat.not_lt_zero j)⟩,⟨Below.refl _ _⟩⟩
 case round =>
  obtain ⟨i,rfl,hi,HA,HB⟩:=hrel
  by_cases hlt : i < xs.length
  ·
   obtain ⟨ad,hA,h0,h1⟩:=at_T102 (Kd.C_below HC.out HB.out) (i : Int) (by omega) (by omega)
   have hx : rd_T102 xs (i : Int) = xs[i]:=by
    unfold rd_T102
    rw [Int.toNat_natCast,List.getD_eq_getElem?_getD,List.getElem?_eq_getElem hlt]
    rfl
   rw [hx,Int.toNat_natCast] at h0 h1
   have HMem:=aq (List.getElem_mem hlt)
   have HGet : Aside0 (xs[i] = xs[i]):=⟨rfl⟩
   obtain ⟨x,hxe⟩ : ∃ x,xs[i] = x:=⟨_,rfl⟩
   rw [hxe] at h0 h1 HMem
   have HXE:=aq hxe
   subst hA
   have HP:=aq (fun W => desc_bad x W (HS.out x HMem.out))
   have hd : decide ((i : Int) < (xs.length : Int)) = true:=decide_eq_true (by omega)
   clear hx hxe HGet
   cases hbd : badS x with
   | true =>
    have HBD:=aq (show xs.any badS = true from List.any_eq_true.2 ⟨x,HMem.out,hbd⟩)
    rw [hbd] at HP
    clear hbd
    go_wp2_with (go_at_call 131;refine (HP.out _).mono ?_;rintro e w1 ⟨rfl,hb⟩;have HB1:=aq (HB.out.trans (hb.mono HB.out.size)))
    refine bodyPost_ret (results_tmp rfl _ _ _) rfl ⟨(i : Int),rfl,?_,HB1.out⟩
    rw [HBD.out]
    simp
   | false =>
    have HBF:=aq hbd
    rw [hbd] at HP
    clear hbd
    go_wp2_with (go_at_call 131;refine (HP.out _).mono ?_;rintro e w1 ⟨rfl,hb⟩;have HB1:=aq (HB.out.trans (hb.mono HB.out.size)))
    go_roundg (gk - 1)
    case measure => omega
    case rel =>
     refine ⟨i + 1,by simp,by omega,⟨fun j hj hji => ?_⟩,HB1⟩
     by_cases e : j = i
     ·
      subst e
      rw [HXE.out]
      exact HBF.out
     ·
      exact HA.out j hj (by omega)
  ·
   have hd : decide ((i : Int) < (xs.length : Int)) = false:=decide_eq_false (by omega)
   have HF : Aside0 (xs.any badS = false):=⟨List.any_eq_false.2 fun x hx => by
    obtain ⟨j,hj,rfl⟩:=List.mem_iff_getElem.1 hx
    rw [HA.out j hj (by omega)]
    simp⟩
   go_wp2
   go_ret
   exact ⟨-1,rfl,by rw [HF.out];rfl,HB.out⟩
theorem contains_bad (A : Option Addr) (c : Nat) (xs : List (S102)) (w : World) (hC : Kd.C k102 w A xs.length xs) (hc : xs.length ≤ c) (hl : xs.length ≤ 1048576) (hs : ∀ x ∈ xs, x.f1.size ≤ 4611686018427387903) :
  Calls Tryz.prog 130 #[.slice A xs.length c,.func (.func 131) #[] #[]] w fun e w' => e = .returned (.bool (xs.any badS)) ∧ Below w.heap.size w w':=by
 have HI:=aq (index_bad A c xs w hC hc hl hs)
 clear hC hs
 go_enter Tryz.func130,Tryz.ntmps130
 go_wp2_with (go_at_call 148;refine HI.out.mono ?_;rintro e w1 ⟨j,rfl,hj,hb⟩;have HJ:=aq hj;clear hj)
 go_ret
 exact ⟨by rw [HJ.out];rfl,hb⟩
def oldS (t : Ty) (x : S23) : Bool := x.f0.toList == (lb t.2).toList
theorem ren_old (x : S23) (g : Nat) (t : Ty) (w : World) (hT : TyAt w g t) :
  Calls Tryz.prog 128 #[.agg #[.string x.f0,.string x.f1],.pointer (some ⟨g,0,none⟩)] w fun e w' => e = .returned (.bool (oldS t x)) ∧ Below w.heap.size w w':=by
 have hg : g < w.heap.size:=(Array.getElem?_eq_some_iff.1 hT).1
 obtain ⟨c0,c1,f0,f1⟩:=ty_cells hT
 go_enter Tryz.func128,Tryz.ntmps128
 go_wp2
 go_ret
 exact ⟨rfl,by first|exact below_alloc (Below.refl _ _) _|exact Below.refl _ _⟩
theorem index_old (A : Option Addr) (c : Nat) (xs : List (S23)) (w : World) (hC : Kd.C k23 w A xs.length xs) (hc : xs.length ≤ c) (hl : xs.length ≤ 1048576) (g : Nat) (t : Ty) (hs : TyAt w g t) :
  Calls Tryz.prog 96 #[.slice A xs.length c,.func (.func 128) #[] #[.pointer (some ⟨g,0,none⟩)]] w fun e w' => ∃ j : Int,e = .returned (.int .i64 j) ∧ ((j = -1 ∧ ∀ x ∈ xs,oldS t x = false) ∨ ∃ i : Nat,∃ hi : i < xs.length,j = (i : Int) ∧ oldS t xs[i] = true ∧ ∀ (m : Nat) (hm : m < xs.length),m < i → oldS t xs[m] = false) ∧ Below w.heap.size w w':=by
 have HC:=aq hC
 have HS:=aq hs
 clear hC hs
 go_enter Tryz.func96,Tryz.ntmps96
 go_wp2
 go_loopg [8] xs.length (fun kq v8 wr => ∃ i : Nat,v8 = .int .i64 (i : Int) ∧ i + kq = xs.length ∧ Aside0 (∀ j (hj : j < xs.length),j < i → oldS t xs[j] = false) ∧ Aside0 (Below w.heap.size w wr))
 case atStart => exact ⟨0,rfl,by omega,⟨fun j _ h => absurd h (Nat.not_lt_zero j)⟩,⟨Below.refl _ _⟩⟩
 case round =>
  obtain ⟨i,rfl,hi,HA,HB⟩:=hrel
  by_cases hlt : i < xs.length
  ·
   obtain ⟨ad,hA,h0,h1⟩:=at_T23 (Kd.C_below HC.out HB.out) (i : Int) (by omega) (by omega)
   have hx : rd_T23 xs (i : Int) = xs[i]:=by
    unfold rd_T23
    rw [Int.toNat_natCast,List.getD_eq_getElem?_getD,List.getElem?_eq_getElem hlt]
    rfl
   rw [hx,Int.toNat_natCast] at h0 h1
   have HMem:=aq (List.getElem_mem hlt)
   have HGet : Aside0 (xs[i] = xs[i]):=⟨rfl⟩
   obtain ⟨x,hxe⟩ : ∃ x,xs[i] = x:=⟨_,rfl⟩
   rw [hxe] at h0 h1 HMem
   have HXE:=aq hxe
   subst hA
   have HP:=aq (fun W (hW : Below w.heap.size w W) => ren_old x g t W (ty_below HS.out hW))
   have hd : decide ((i : Int) < (xs.length : Int)) = true:=decide_eq_true (by omega)
   clear hx hxe HGet
   cases hbd : oldS t x with
   | true =>
    have HBD:=aq (show oldS t xs[i] = true from by rw [HXE.out];exact hbd)
    rw [hbd] at HP
    clear hbd
    go_wp2_with (go_at_call 128;refine (HP.out _ HB.out).mono ?_;rintro e w1 ⟨rfl,hb⟩;have HB1:=aq (HB.out.trans (hb.mono HB.out.size)))
    refine bodyPost_ret (results_tmp rfl _ _ _) rfl ⟨(i : Int),rfl,.inr ⟨i,hlt,rfl,HBD.out,HA.out⟩,HB1.out⟩
   | false =>
    have HBF:=aq hbd
    rw [hbd] at HP
    clear hbd
    go_wp2_with (go_at_call 128;refine (HP.out _ HB.out).mono ?_;rintro e w1 ⟨rfl,hb⟩;have HB1:=aq (HB.out.trans (hb.mono HB.out.size)))
    go_roundg (gk - 1)
    case measure => omega
    case rel =>
     refine ⟨i + 1,by simp,by omega,⟨fun j hj hji => ?_⟩,HB1⟩
     by_cases e : j = i
     ·
      subst e
      rw [HXE.out]
      exact HBF.out
     ·
      exact HA.out j hj (by omega)
  ·
   have hd : decide ((i : Int) < (xs.length : Int)) = false:=decide_eq_false (by omega)
   have HF : Aside0 (∀ x ∈ xs,oldS t x = false):=⟨fun x hx => by
    obtain ⟨j,hj,rfl⟩:=List.mem_iff_getElem.1 hx
    exact HA.out j hj (by omega)⟩
   go_wp2
   go_ret
   exact ⟨-1,rfl,.inl ⟨rfl,HF.out⟩,HB.out⟩
end Go.Proofs.YtaokkkolbifdpaaGreatDoor.Hand
end

section
namespace Go.Proofs.YtaokkkolbifdpaaGreatDoor.Hand
open Go.RowKit Go.Shelf Go.Proofs.YtaokkkolbifdpaaGreatDoorW.PrintWords Go.Proofs.YtaokkkolbifdpaaGreatDoorW.PrintLast Go.Proofs.YtaokkkolbifdpaaGreatDoorW.PrintMore
theorem ren_stays (k : Int) (c : ByteArray) (A : Option Addr) (n cp : Nat) (w : World) (h3 : k ≠ 3) (h5 : k ≠ 5) :
  Calls Tryz.prog 102 #[.agg #[.int .i64 k,.string c],.slice A n cp] w fun e w' => e = .returned (.agg #[.int .i64 k,.string c]) ∧ Below w.heap.size w w':=by
 have q3 : (k == 3) = false:=beq_eq_false_iff_ne.2 h3
 have q5 : (k == 5) = false:=beq_eq_false_iff_ne.2 h5
 have p3 : (k != 3) = true:=by simp [h3]
 have p5 : (k != 5) = true:=by simp [h5]
 go_enter Tryz.func102,Tryz.ntmps102
 go_wp2
 refine ⟨rfl,.agg #[.int .i64 k,.string c],by simp [results,Tryz.results102,go_sem],rfl,?_⟩
 first
  | exact ((below_alloc (below_alloc (Below.refl _ _) _) _).setCell (p:=⟨w.heap.size + 1,0,none⟩) (by simp) _).setCell (p:=⟨w.heap.size + 1,1,none⟩) (by simp) _
  | exact below_alloc (below_alloc (Below.refl _ _) _) _
  | trace_state
end Go.Proofs.YtaokkkolbifdpaaGreatDoor.Hand
end

section
namespace Go.Proofs.YtaokkkolbifdpaaGreatDoor.Hand
open Go.RowKit Go.Shelf Go.Proofs.YtaokkkolbifdpaaGreatDoorW.PrintWords Go.Proofs.YtaokkkolbifdpaaGreatDoorW.PrintLast Go.Proofs.YtaokkkolbifdpaaGreatDoorW.PrintMore
def pairT (x : S23) : List UInt8 × List UInt8 := (bl x.f0, bl x.f1)
theorem old_eq (x : S23) (t : Ty) : oldS t x = decide ((pairT x).1 = t.2) := by
 unfold oldS pairT
 rw [ByteArray.toList_eq,ByteArray.toList_eq]
 show (bl x.f0 == bl (lb t.2)) = decide (bl x.f0 = t.2)
 rw [bl_lb]
 by_cases h : bl x.f0 = t.2
 ·
  simp [h]
 ·
  simp [h]
theorem new_cons (x : S23) (xs : List (S23)) (t : Ty) : newOf ((x :: xs).map pairT) t.2 = if oldS t x = true then bl x.f1 else newOf (xs.map pairT) t.2 := by
 rw [old_eq]
 unfold newOf
 rw [List.map_cons,List.find?_cons]
 by_cases h : (pairT x).1 = t.2
 ·
  simp [h];rfl
 ·
  simp [h]
theorem new_none : ∀ (xs : List (S23)) (t : Ty), (∀ x ∈ xs, oldS t x = false) → newOf (xs.map pairT) t.2 = t.2
 | [],t,_ => rfl
 | x :: xs,t,h => by
  rw [new_cons,h x (by simp),if_neg (by decide)]
  exact new_none xs t fun y hy => h y (by simp [hy])
theorem new_some : ∀ (xs : List (S23)) (t : Ty) (i : Nat) (hi : i < xs.length), oldS t xs[i] = true → (∀ (m : Nat) (hm : m < xs.length), m < i → oldS t xs[m] = false) → newOf (xs.map pairT) t.2 = bl xs[i].f1
 | [],t,i,hi,_,_ => absurd hi (Nat.not_lt_zero i)
 | x :: xs,t,0,hi,h,_ => by
  rw [new_cons,if_pos (by simpa using h)]
  rfl
 | x :: xs,t,i + 1,hi,h,h2 => by
  rw [new_cons,if_neg (by have:=h2 0 (by simp) (by omega);simp only [List.getElem_cons_zero] at this;rw [this];decide)]
  exact new_some xs t i (by simpa using hi) (by simpa using h) fun m hm hmi => by
   have:=h2 (m + 1) (by simpa using hm) (by omega)
   simpa using this
theorem old_where (t : Ty) : ∀ xs : List (S23), (∀ x ∈ xs, oldS t x = false) ∨ ∃ i : Nat, ∃ hi : i < xs.length, oldS t xs[i] = true ∧ ∀ (m : Nat) (hm : m < xs.length), m < i → oldS t xs[m] = false
 | [] => .inl (by simp)
 | x :: xs => by
  cases hx : oldS t x with
  | true => exact .inr ⟨0,by simp,hx,fun m _ h => absurd h (Nat.not_lt_zero m)⟩
  | false =>
   rcases old_where t xs with h|⟨i,hi,h1,h2⟩
   ·
    left
    intro y hy
    simp only [List.mem_cons] at hy
    rcases hy with rfl|hy
    ·
     exact hx
    ·
     exact h y hy
   ·
    refine .inr ⟨i + 1,by simpa using hi,by simpa using h1,fun m hm hmi => ?_⟩
    cases m with
    | zero => simpa using hx
    | succ m => simpa using h2 m (by simpa using hm) (by omega)
theorem index_none (A : Option Addr) (c : Nat) (xs : List (S23)) (w : World) (hC : Kd.C k23 w A xs.length xs) (hc : xs.length ≤ c) (hl : xs.length ≤ 1048576) (g : Nat) (t : Ty) (hs : TyAt w g t) (h : ∀ x ∈ xs, oldS t x = false) :
  Calls Tryz.prog 96 #[.slice A xs.length c,.func (.func 128) #[] #[.pointer (some ⟨g,0,none⟩)]] w fun e w' => e = .returned (.int .i64 (-1)) ∧ Below w.heap.size w w' :=
 (index_old A c xs w hC hc hl g t hs).mono fun e w' ⟨j,h1,h2,h3⟩ => by
  rcases h2 with ⟨rfl,_⟩|⟨i,hi,rfl,h4,_⟩
  ·
   exact ⟨h1,h3⟩
  ·
   rw [h _ (List.getElem_mem hi)] at h4
   cases h4
theorem index_some (A : Option Addr) (c : Nat) (xs : List (S23)) (w : World) (hC : Kd.C k23 w A xs.length xs) (hc : xs.length ≤ c) (hl : xs.length ≤ 1048576) (g : Nat) (t : Ty) (hs : TyAt w g t) (i : Nat) (hi : i < xs.length) (h1 : oldS t xs[i] = true) (h2 : ∀ (m : Nat) (hm : m < xs.length), m < i → oldS t xs[m] = false) :
  Calls Tryz.prog 96 #[.slice A xs.length c,.func (.func 128) #[] #[.pointer (some ⟨g,0,none⟩)]] w fun e w' => e = .returned (.int .i64 (i : Int)) ∧ Below w.heap.size w w' :=
 (index_old A c xs w hC hc hl g t hs).mono fun e w' ⟨j,g1,g2,g3⟩ => by
  rcases g2 with ⟨rfl,g4⟩|⟨i',hi',rfl,g4,g5⟩
  ·
   rw [g4 _ (List.getElem_mem hi)] at h1
   cases h1
  ·
   have : i' = i:=by
    rcases Nat.lt_trichotomy i' i with h|h|h
    ·
     rw [h2 i' hi' h] at g4;cases g4
    ·
     exact h
    ·
     rw [g5 i hi h] at h1;cases h1
   subst this
   exact ⟨g1,g3⟩
theorem ty_set0 {w : World} {g : Nat} {k0 : Int} {c : List UInt8} (h : TyAt w g (k0, c)) (k : Int) : TyAt (w.setCell ⟨g, 0, none⟩ (.int .i64 k)) g (k, c) := by
 have h2:=blk_set h 0 (.int .i64 k)
 simp only [List.setIfInBounds_toArray,List.set_cons_zero] at h2
 exact h2
theorem ren_none (k : Int) (c : List UInt8) (A : Option Addr) (cp : Nat) (xs : List (S23)) (w : World) (hC : Kd.C k23 w A xs.length xs) (hcp : xs.length ≤ cp) (hl : xs.length ≤ 1048576) (h35 : k = 3 ∨ k = 5) (hn : ∀ x ∈ xs, oldS (k, c) x = false) :
  Calls Tryz.prog 102 #[.agg #[.int .i64 k,.string (lb c)],.slice A xs.length cp] w fun e w' => e = .returned (.agg #[.int .i64 k,.string (lb c)]) ∧ Below w.heap.size w w':=by
 have hmf : ∀ (fn : Fn) (first cap : Array Value) (w : World),(Instr.makeFunc fn first cap).run Tryz.prog w = .ok (.func fn first cap) w:=fun _ _ _ _ => rfl
 obtain ⟨W1,hW1⟩ : ∃ W1,W1 = (w.alloc (.cells #[.int .i64 k,.string (lb c)] 102)).alloc (.cells #[.int .i64 0,.string ⟨#[]⟩] 102):=⟨_,rfl⟩
 have hB1 : Below w.heap.size w W1:=by rw [hW1];exact below_alloc (below_alloc (Below.refl _ _) _) _
 have hT1 : TyAt W1 w.heap.size (k,c):=by rw [hW1];exact ty_kept (World.alloc_heap_new w (.cells #[.int .i64 k,.string (lb c)] 102)) (World.grownBy_alloc _ _ none) (by simp)
 have hR1 : TyAt W1 (w.heap.size + 1) (0,[]):=by
  have:=World.alloc_heap_new (w.alloc (.cells #[.int .i64 k,.string (lb c)] 102)) (.cells #[.int .i64 0,.string ⟨#[]⟩] 102)
  rw [World.size_alloc] at this
  rw [hW1];exact this
 have HI:=aq (index_none A cp xs W1 (Kd.C_below hC hB1) hcp hl w.heap.size (k,c) hT1 hn)
 have HT:=aq hT1
 have HR:=aq hR1
 have HB:=aq hB1
 clear hC hn hT1 hR1 hB1
 rcases h35 with rfl|rfl
 all_goals go_enter Tryz.func102,Tryz.ntmps102
 all_goals go_wp2_with (go_at_call 96;rw [← hW1];refine HI.out.mono ?_;rintro e w1 ⟨rfl,hb⟩;have HB1:=aq (HB.out.trans (hb.mono HB.out.size));obtain ⟨c0,c1,f0,f1⟩:=ty_cells (ty_below HT.out hb);obtain ⟨d0,d1,g0,g1⟩:=ty_cells (ty_below HR.out hb);have HR1:=aq (ty_below HR.out hb);clear hb)
 ·
  obtain ⟨q0,q1,_,_⟩:=ty_cells (ty_set HR1.out 3 c)
  obtain ⟨r0,_,_,_⟩:=ty_cells (ty_set0 HR1.out 3)
  refine ⟨rfl,.agg #[.int .i64 3,.string (lb c)],by simp [results,Tryz.results102,go_sem,q0,q1,r0],rfl,?_⟩
  exact (HB1.out.setCell (p:=⟨w.heap.size + 1,0,none⟩) (by simp) _).setCell (p:=⟨w.heap.size + 1,1,none⟩) (by simp) _
 ·
  obtain ⟨q0,q1,_,_⟩:=ty_cells (ty_set HR1.out 5 c)
  obtain ⟨r0,_,_,_⟩:=ty_cells (ty_set0 HR1.out 5)
  refine ⟨rfl,.agg #[.int .i64 5,.string (lb c)],by simp [results,Tryz.results102,go_sem,q0,q1,r0],rfl,?_⟩
  exact (HB1.out.setCell (p:=⟨w.heap.size + 1,0,none⟩) (by simp) _).setCell (p:=⟨w.heap.size + 1,1,none⟩) (by simp) _
theorem ren_some (k : Int) (c : List UInt8) (A : Option Addr) (cp : Nat) (xs : List (S23)) (w : World) (hC : Kd.C k23 w A xs.length xs) (hcp : xs.length ≤ cp) (hl : xs.length ≤ 1048576) (h35 : k = 3 ∨ k = 5) (i : Nat) (hi : i < xs.length) (h1 : oldS (k, c) xs[i] = true) (h2 : ∀ (m : Nat) (hm : m < xs.length), m < i → oldS (k, c) xs[m] = false) :
  Calls Tryz.prog 102 #[.agg #[.int .i64 k,.string (lb c)],.slice A xs.length cp] w fun e w' => e = .returned (.agg #[.int .i64 k,.string (lb (bl xs[i].f1))]) ∧ Below w.heap.size w w':=by
 have hmf : ∀ (fn : Fn) (first cap : Array Value) (w : World),(Instr.makeFunc fn first cap).run Tryz.prog w = .ok (.func fn first cap) w:=fun _ _ _ _ => rfl
 obtain ⟨W1,hW1⟩ : ∃ W1,W1 = (w.alloc (.cells #[.int .i64 k,.string (lb c)] 102)).alloc (.cells #[.int .i64 0,.string ⟨#[]⟩] 102):=⟨_,rfl⟩
 have hB1 : Below w.heap.size w W1:=by rw [hW1];exact below_alloc (below_alloc (Below.refl _ _) _) _
 have hT1 : TyAt W1 w.heap.size (k,c):=by rw [hW1];exact ty_kept (World.alloc_heap_new w (.cells #[.int .i64 k,.string (lb c)] 102)) (World.grownBy_alloc _ _ none) (by simp)
 have hR1 : TyAt W1 (w.heap.size + 1) (0,[]):=by
  have:=World.alloc_heap_new (w.alloc (.cells #[.int .i64 k,.string (lb c)] 102)) (.cells #[.int .i64 0,.string ⟨#[]⟩] 102)
  rw [World.size_alloc] at this
  rw [hW1];exact this
 have HI:=aq (index_some A cp xs W1 (Kd.C_below hC hB1) hcp hl w.heap.size (k,c) hT1 i hi h1 h2)
 have hx : rd_T23 xs (i : Int) = xs[i]:=by
  unfold rd_T23
  rw [Int.toNat_natCast,List.getD_eq_getElem?_getD,List.getElem?_eq_getElem hi]
  rfl
 obtain ⟨ad,hA,_,_⟩:=at_T23 hC (i : Int) (by omega) (by omega)
 obtain ⟨l2,hl2⟩ : ∃ l2,bl xs[i].f1 = l2:=⟨_,rfl⟩
 have HP : Aside0 (∀ W,Below w.heap.size w W → W.cell? ⟨(ad.add (i * 2)).block,(ad.add (i * 2)).off + 1,none⟩ = some (.string (lb l2))):=⟨fun W hW => by
  obtain ⟨ad',hA',_,p1⟩:=at_T23 (Kd.C_below hC hW) (i : Int) (by omega) (by omega)
  rw [hA] at hA'
  obtain rfl:=Option.some.inj hA'
  rw [hx,Int.toNat_natCast] at p1
  rw [← hl2,lb_bl]
  exact p1⟩
 rw [hl2]
 subst hA
 have HT:=aq hT1
 have HR:=aq hR1
 have HB:=aq hB1
 clear hC h1 h2 hT1 hR1 hB1 hx hl2
 rcases h35 with rfl|rfl
 all_goals go_enter Tryz.func102,Tryz.ntmps102
 all_goals go_wp2_with (go_at_call 96;rw [← hW1];refine HI.out.mono ?_;rintro e w1 ⟨rfl,hb⟩;have HB1:=aq (HB.out.trans (hb.mono HB.out.size));have p1:=HP.out _ HB1.out;obtain ⟨c0,c1,f0,f1⟩:=ty_cells (ty_below HT.out hb);obtain ⟨d0,d1,g0,g1⟩:=ty_cells (ty_below HR.out hb);have HT1:=aq (ty_below HT.out hb);have HR1:=aq (ty_below HR.out hb);clear hb)
 all_goals have HK:=aq (ty_kept HR1.out (scan_setCell w1 ⟨w.heap.size,1,none⟩ (.string (lb l2))) (by simp))
 ·
  obtain ⟨q0,q1,_,_⟩:=ty_cells (ty_set HK.out 3 l2)
  obtain ⟨r0,_,_,_⟩:=ty_cells (ty_set0 HK.out 3)
  refine ⟨rfl,.agg #[.int .i64 3,.string (lb l2)],by simp [results,Tryz.results102,go_sem,q0,q1,r0],rfl,?_⟩
  exact ((HB1.out.setCell (p:=⟨w.heap.size,1,none⟩) (by simp) _).setCell (p:=⟨w.heap.size + 1,0,none⟩) (by simp) _).setCell (p:=⟨w.heap.size + 1,1,none⟩) (by simp) _
 ·
  obtain ⟨q0,q1,_,_⟩:=ty_cells (ty_set HK.out 5 l2)
  obtain ⟨r0,_,_,_⟩:=ty_cells (ty_set0 HK.out 5)
  refine ⟨rfl,.agg #[.int .i64 5,.string (lb l2)],by simp [results,Tryz.results102,go_sem,q0,q1,r0],rfl,?_⟩
  exact ((HB1.out.setCell (p:=⟨w.heap.size,1,none⟩) (by simp) _).setCell (p:=⟨w.heap.size + 1,0,none⟩) (by simp) _).setCell (p:=⟨w.heap.size + 1,1,none⟩) (by simp) _
theorem text_len (t : Ty) : (textT classL t).length ≤ t.2.length + 3 := by
 unfold textT
 repeat' split
 all_goals simp
theorem texts_len (M : Nat) : ∀ xs : List (S102), (∀ x ∈ xs, x.f1.size ≤ M) → (xs.flatMap fun x => textT classL (ofS x)).length ≤ xs.length * (M + 3)
 | [],_ => by simp
 | x :: xs,h => by
  have h1:=texts_len M xs fun y hy => h y (by simp [hy])
  have h2:=text_len (ofS x)
  have h3:=h x (by simp)
  have h4 : (ofS x).2.length = x.f1.size:=bl_len x.f1
  rw [List.flatMap_cons,List.length_append,List.length_cons,Nat.add_mul]
  omega
theorem bad_all (xs : List (S102)) : xs.any badS = !(xs.map ofS).all (paramT classL) := by
 induction xs with
 | nil => rfl
 | cons x xs ih =>
  rw [List.any_cons,ih,List.map_cons,List.all_cons,Bool.not_and]
  rfl
def preD (xs : List (S102)) (i : Nat) : List UInt8 := 40 :: (xs.take i).flatMap fun x => textT classL (ofS x)
theorem preD_succ (xs : List (S102)) (i : Nat) (hi : i < xs.length) : preD xs (i + 1) = preD xs i ++ textT classL (ofS xs[i]) := by
 unfold preD
 rw [List.take_add_one,List.getElem?_eq_getElem hi,List.flatMap_append]
 simp
theorem preD_all (xs : List (S102)) (t : Ty) : preD xs xs.length ++ 41 :: textT classL t = descText classL t (xs.map ofS) := by
 unfold preD descText
 rw [List.take_length,List.flatMap_map]
 rfl
theorem preD_len (M : Nat) (xs : List (S102)) (h : ∀ x ∈ xs, x.f1.size ≤ M) (i : Nat) (hi : i ≤ 8) : (preD xs i).length ≤ 1 + 8 * (M + 3) := by
 unfold preD
 have h1:=texts_len M (xs.take i) fun x hx => h x (List.mem_of_mem_take hx)
 have h2 : (xs.take i).length ≤ 8:=by rw [List.length_take];omega
 have h3 : (xs.take i).length * (M + 3) ≤ 8 * (M + 3):=Nat.mul_le_mul_right _ h2
 rw [List.length_cons]
 omega
theorem desc_form (t : Ty) (A : Option Addr) (cp : Nat) (xs : List (S102)) (w : World) (hC : Kd.C k102 w A xs.length xs) (hcp : xs.length ≤ cp) (hl : xs.length ≤ 1048576) (hs : ∀ x ∈ xs, x.f1.size ≤ 140737488355328) (hc : t.2.length ≤ 140737488355328) (hbad : ¬ (rightT classL t = true ∧ xs.any badS = false)) :
  Calls Tryz.prog 103 #[.agg #[.int .i64 t.1,.string (lb t.2)],.slice A xs.length cp] w fun e w' => e = .returned (.tuple #[.string ⟨#[]⟩,.int .i64 1]) ∧ Below w.heap.size w w':=by
 obtain ⟨k,c⟩:=t
 simp only at hc hbad ⊢
 have HRt:=aq (fun W => kind_right k (lb c) W (by rw [lb_size];omega))
 rw [bl_lb] at HRt
 have HBox:=aq (below_alloc (Below.refl w.heap.size w) (.cells #[.int .i64 k,.string (lb c)] 102))
 cases hr : rightT classL (k,c) with
 | false =>
  rw [hr] at HRt
  clear hbad
  go_enter Tryz.func103,Tryz.ntmps103
  go_wp2_with (go_at_call 129;refine (HRt.out _).mono ?_;rintro e w1 ⟨rfl,hb⟩;have HB1:=aq (HBox.out.trans (hb.mono (by simp)));clear hb)
  go_ret2
  exact ⟨rfl,HB1.out⟩
 | true =>
  have ha : xs.any badS = true:=by
   cases h : xs.any badS with
   | true => rfl
   | false => exact absurd ⟨hr,h⟩ hbad
  rw [hr] at HRt
  have HC:=aq (fun W (hW : Below w.heap.size w W) => contains_bad A cp xs W (Kd.C_below hC hW) hcp hl (fun x hx => by have:=hs x hx;omega))
  rw [ha] at HC
  clear hbad hC hs
  go_enter Tryz.func103,Tryz.ntmps103
  go_wp2_with (first|(go_at_call 129;refine (HRt.out _).mono ?_;rintro e w1 ⟨rfl,hb⟩;have HB1:=aq (HBox.out.trans (hb.mono (by simp)));clear hb)|(go_at_call 130;refine (HC.out _ HB1.out).mono ?_;rintro e w2 ⟨rfl,hb⟩;have HB2:=aq (HB1.out.trans (hb.mono HB1.out.size));clear hb))
  go_ret2
  exact ⟨rfl,HB2.out⟩
theorem desc_good (t : Ty) (A : Option Addr) (cp : Nat) (xs : List (S102)) (w : World) (hC : Kd.C k102 w A xs.length xs) (hcp : xs.length ≤ cp) (hl : xs.length ≤ 1048576) (hs : ∀ x ∈ xs, x.f1.size ≤ 140737488355328) (hc : t.2.length ≤ 140737488355328) (hr : rightT classL t = true) (ha : xs.any badS = false) :
  Calls Tryz.prog 103 #[.agg #[.int .i64 t.1,.string (lb t.2)],.slice A xs.length cp] w fun e w' => e = .returned (.tuple #[.string (lb (if xs.length > 8 then ([],3) else if (descText classL t (xs.map ofS)).length > 64 then ([],3) else (descText classL t (xs.map ofS),(0 : Int))).1),.int .i64 (if xs.length > 8 then ([],3) else if (descText classL t (xs.map ofS)).length > 64 then ([],3) else (descText classL t (xs.map ofS),(0 : Int))).2]) ∧ Below w.heap.size w w':=by
 have HPA:=aq (preD_all xs t)
 obtain ⟨k,c⟩:=t
 simp only at hc ⊢
 have HRt:=aq (fun W => kind_right k (lb c) W (by rw [lb_size];omega))
 rw [bl_lb,hr] at HRt
 have HBox:=aq (below_alloc (Below.refl w.heap.size w) (.cells #[.int .i64 k,.string (lb c)] 102))
 have HTy0 : Aside0 (TyAt (w.alloc (.cells #[.int .i64 k,.string (lb c)] 102)) w.heap.size (k,c)):=⟨World.alloc_heap_new _ _⟩
 have HCB:=aq (fun W (hW : Below w.heap.size w W) => contains_bad A cp xs W (Kd.C_below hC hW) hcp hl (fun x hx => by have:=hs x hx;omega))
 rw [ha] at HCB
 have HC:=aq hC
 have HS:=aq hs
 clear hC hs ha hr
 by_cases h8 : 8 < xs.length
 ·
  rw [if_pos h8]
  have hd1 : decide ((8 : Int) < (xs.length : Int)) = true:=decide_eq_true (by omega)
  have hd2 : decide (8 < xs.length) = true:=decide_eq_true h8
  go_enter Tryz.func103,Tryz.ntmps103
  go_wp2_with (first|(go_at_call 129;refine (HRt.out _).mono ?_;rintro e w1 ⟨rfl,hb⟩;have HB1:=aq (HBox.out.trans (hb.mono (by simp)));clear hb)|(go_at_call 130;refine (HCB.out _ HB1.out).mono ?_;rintro e w2 ⟨rfl,hb⟩;have HB2:=aq (HB1.out.trans (hb.mono HB1.out.size));clear hb))
  go_ret2
  exact ⟨rfl,HB2.out⟩
 ·
  rw [if_neg h8]
  have hd1 : decide ((8 : Int) < (xs.length : Int)) = false:=decide_eq_false (by omega)
  have hd2 : decide (8 < xs.length) = false:=decide_eq_false h8
  have HN : Aside0 (xs.length ≤ 8):=⟨by omega⟩
  have HL : Aside0 (∀ i,i ≤ xs.length → (preD xs i).length ≤ 1125899906842649):=⟨fun i hi => by have:=preD_len 140737488355328 xs HS.out i (by have:=HN.out;omega);omega⟩
  have HTR:=aq (fun W => kind_text k (lb c) W (by rw [lb_size];omega))
  rw [bl_lb] at HTR
  have hP0 : (⟨#[40]⟩ : ByteArray) = lb (preD xs 0):=rfl
  go_enter Tryz.func103,Tryz.ntmps103
  go_wp2_with (first|(go_at_call 129;refine (HRt.out _).mono ?_;rintro e w1 ⟨rfl,hb⟩;have HB1:=aq (HBox.out.trans (hb.mono (by simp)));have HTy1:=aq (ty_below HTy0.out hb);clear hb)|(go_at_call 130;refine (HCB.out _ HB1.out).mono ?_;rintro e w2 ⟨rfl,hb⟩;have HB2:=aq (HB1.out.trans (hb.mono HB1.out.size));have HTy2:=aq (ty_below HTy1.out hb);clear hb))
  go_loopg [6,21] xs.length (fun kq v6 v21 wr => ∃ i : Nat,v21 = .int .i64 (i : Int) ∧ v6 = .string (lb (preD xs i)) ∧ i + kq = xs.length ∧ Aside0 (Below w.heap.size w wr) ∧ Aside0 (TyAt wr w.heap.size (k,c)))
  case atStart => exact ⟨0,rfl,rfl,by omega,HB2,HTy2⟩
  case round =>
   obtain ⟨i,rfl,rfl,hi,HB,HTy⟩:=hrel
   by_cases hlt : i < xs.length
   ·
    have hsz:=HS.out xs[i] (List.getElem_mem hlt)
    obtain ⟨ad,hA,h0,h1⟩:=at_T102 (Kd.C_below HC.out HB.out) (i : Int) (by omega) (by omega)
    have hx : rd_T102 xs (i : Int) = xs[i]:=by
     unfold rd_T102
     rw [Int.toNat_natCast,List.getD_eq_getElem?_getD,List.getElem?_eq_getElem hlt]
     rfl
    rw [hx,Int.toNat_natCast] at h0 h1
    have HSucc:=aq (preD_succ xs i hlt)
    have hz1 : (lb (preD xs i)).size ≤ 1125899906842649:=by rw [lb_size];exact HL.out i (by omega)
    obtain ⟨x,hxe⟩ : ∃ x,xs[i] = x:=⟨_,rfl⟩
    rw [hxe] at h0 h1 hsz HSucc
    subst hA
    have HT:=aq (fun W => kind_text x.f0 x.f1 W (by omega))
    obtain ⟨tx,htx⟩ : ∃ tx,textT classL (x.f0,bl x.f1) = tx:=⟨_,rfl⟩
    have hz2 : (lb tx).size ≤ 140737488355331:=by
     rw [lb_size,← htx]
     have h:=text_len (x.f0,bl x.f1)
     simp only at h
     rw [bl_len] at h
     omega
    have hofx : textT classL (ofS x) = tx:=htx
    rw [hofx] at HSucc
    rw [htx] at HT
    have hd : decide ((i : Int) < (xs.length : Int)) = true:=decide_eq_true (by omega)
    clear hx hxe htx hofx hsz
    obtain ⟨pc,hpc⟩ : ∃ pc,lb (preD xs i) = pc:=⟨_,rfl⟩
    have HPc:=aq hpc
    rw [hpc] at hz1 ⊢
    clear hpc
    go_wp2_with (go_at_call 132;refine (HT.out _).mono ?_;rintro e w1 ⟨rfl,hb⟩;have hbb : Below wr.heap.size wr w1:=(below_alloc (Below.refl _ _) _).trans (hb.mono (by simp));have HB1:=aq (HB.out.trans (hbb.mono HB.out.size));have HTy1:=aq (ty_below HTy.out hbb);clear hb hbb)
    go_roundg (gk - 1)
    case measure => omega
    case rel =>
     refine ⟨i + 1,by simp,?_,by omega,HB1,HTy1⟩
     rw [HSucc.out,← HPc.out,← lb_cat]
   ·
    have hi2 : i = xs.length:=by omega
    subst hi2
    have hd : decide (((xs.length : Nat) : Int) < (xs.length : Int)) = false:=decide_eq_false (by omega)
    obtain ⟨c0,c1,f0,f1⟩:=ty_cells HTy.out
    obtain ⟨tr,htr⟩ : ∃ tr,textT classL (k,c) = tr:=⟨_,rfl⟩
    have hz1 : (lb (preD xs xs.length)).size ≤ 1125899906842649:=by rw [lb_size];exact HL.out _ (by omega)
    have hz2 : (lb tr).size ≤ 140737488355331:=by
     rw [lb_size,← htr]
     have h:=text_len (k,c)
     simp only at h
     omega
    rw [htr] at HTR HPA
    have hcat : lb (preD xs xs.length) ++ ((⟨#[41]⟩ : ByteArray) ++ lb tr) = lb (descText classL (k,c) (xs.map ofS)):=by
     have e : (⟨#[41]⟩ : ByteArray) = lb [41]:=rfl
     rw [e,lb_cat,lb_cat,← HPA.out]
     rfl
    have hsize : (lb (preD xs xs.length)).size + (1 + (lb tr).size) = (descText classL (k,c) (xs.map ofS)).length:=by
     rw [← HPA.out,List.length_append,List.length_cons,lb_size,lb_size]
     omega
    have HCat:=aq hcat
    clear hcat htr
    obtain ⟨pc,hpc⟩ : ∃ pc,lb (preD xs xs.length) = pc:=⟨_,rfl⟩
    rw [hpc] at hz1 hsize HCat ⊢
    clear hpc
    have h41 : (⟨#[41]⟩ : ByteArray).size = 1:=rfl
    by_cases h64 : (descText classL (k,c) (xs.map ofS)).length > 64
    ·
     have hd3 : decide ((64 : Int) < ((pc.size + (1 + (lb tr).size) : Nat) : Int)) = true:=decide_eq_true (by omega)
     have hd4 : decide (64 < pc.size + (1 + (lb tr).size)) = true:=decide_eq_true (by omega)
     go_wp2_with (go_at_call 132;refine (HTR.out _).mono ?_;rintro e w1 ⟨rfl,hb⟩;have HB1:=aq (HB.out.trans (hb.mono HB.out.size));clear hb)
     go_ret2
     exact ⟨rfl,HB1.out⟩
    ·
     have hd3 : decide ((64 : Int) < ((pc.size + (1 + (lb tr).size) : Nat) : Int)) = false:=decide_eq_false (by omega)
     have hd4 : decide (64 < pc.size + (1 + (lb tr).size)) = false:=decide_eq_false (by omega)
     go_wp2_with (go_at_call 132;refine (HTR.out _).mono ?_;rintro e w1 ⟨rfl,hb⟩;have HB1:=aq (HB.out.trans (hb.mono HB.out.size));clear hb)
     go_ret2
     exact ⟨by rw [← HCat.out];rfl,HB1.out⟩
theorem kind_ren (k : Int) (c : ByteArray) (A : Option Addr) (cp : Nat) (xs : List (S23)) (w : World) (hC : Kd.C k23 w A xs.length xs) (hcp : xs.length ≤ cp) (hl : xs.length ≤ 1048576) :
  Calls Tryz.prog 102 #[.agg #[.int .i64 k,.string c],.slice A xs.length cp] w fun e w' => e = .returned (.agg #[.int .i64 (renT (xs.map pairT) (k,bl c)).1,.string (lb (renT (xs.map pairT) (k,bl c)).2)]) ∧ Below w.heap.size w w':=by
 unfold renT
 by_cases h35 : k = 3 ∨ k = 5
 ·
  rw [if_pos h35]
  obtain ⟨c,rfl⟩ : ∃ l,c = lb l:=⟨bl c,(lb_bl c).symm⟩
  rw [bl_lb]
  rcases old_where (k,c) xs with hn|⟨i,hi,h1,h2⟩
  ·
   have e:=new_none xs (k,c) hn
   simp only at e ⊢
   rw [e]
   exact ren_none k c A cp xs w hC hcp hl h35 hn
  ·
   have e:=new_some xs (k,c) i hi h1 h2
   simp only at e ⊢
   rw [e]
   exact ren_some k c A cp xs w hC hcp hl h35 i hi h1 h2
 ·
  rw [if_neg h35]
  simp only
  rw [lb_bl]
  exact ren_stays k c A xs.length cp w (fun h => h35 (.inl h)) (fun h => h35 (.inr h))
theorem kind_desc (k : Int) (c : ByteArray) (A : Option Addr) (cp : Nat) (xs : List (S102)) (w : World) (hC : Kd.C k102 w A xs.length xs) (hcp : xs.length ≤ cp) (hl : xs.length ≤ 1048576) (hs : ∀ x ∈ xs, x.f1.size ≤ 140737488355328) (hc : c.size ≤ 140737488355328) :
  Calls Tryz.prog 103 #[.agg #[.int .i64 k,.string c],.slice A xs.length cp] w fun e w' => e = .returned (.tuple #[.string (lb (descD classL (k,bl c) (xs.map ofS)).1),.int .i64 (descD classL (k,bl c) (xs.map ofS)).2]) ∧ Below w.heap.size w w':=by
 obtain ⟨c,rfl⟩ : ∃ l,c = lb l:=⟨bl c,(lb_bl c).symm⟩
 rw [lb_size] at hc
 rw [bl_lb]
 unfold descD
 by_cases hg : rightT classL (k,c) = true ∧ (xs.map ofS).all (paramT classL) = true
 ·
  rw [if_pos hg,List.length_map]
  exact desc_good (k,c) A cp xs w hC hcp hl hs hc hg.1 (by rw [bad_all,hg.2];rfl)
 ·
  rw [if_neg hg]
  exact desc_form (k,c) A cp xs w hC hcp hl hs hc (fun h => hg ⟨h.1,by have h2:=h.2;rw [bad_all] at h2;simpa using h2⟩)
def shortS (xs : List (S102)) : Bool := xs.all fun x => decide (x.f1.size ≤ 140737488355328)
theorem short_mem {xs : List (S102)} (h : shortS xs = true) : ∀ x ∈ xs, x.f1.size ≤ 140737488355328 := fun x hx => of_decide_eq_true (List.all_eq_true.1 h x hx)
end Go.Proofs.YtaokkkolbifdpaaGreatDoor.Hand
end

section
namespace Go.Proofs.YtaokkkolbifdpaaGreatDoor.Hand
open Go.RowKit Go.Proofs.YtaokkkolbifdpaaGreatDoorW
open PrintWords PrintLast PrintMore
theorem ofS_inj {x y : S102} (h : ofS x = ofS y) : x = y := by
 obtain ⟨a,b⟩:=x
 obtain ⟨c,d⟩:=y
 unfold ofS at h
 simp only [Prod.mk.injEq] at h
 obtain ⟨rfl,h2⟩:=h
 rw [bl_inj h2]
theorem rdT_get (xs : List (S102)) (i : Nat) (hi : i < xs.length) : rd_T102 xs (i : Int) = xs[i] := by
 unfold rd_T102
 rw [Int.toNat_natCast,List.getD_eq_getElem?_getD,List.getElem?_eq_getElem hi]
 rfl
theorem rdP_get (xs : List (S23)) (i : Nat) (hi : i < xs.length) : rd_T23 xs (i : Int) = xs[i] := by
 unfold rd_T23
 rw [Int.toNat_natCast,List.getD_eq_getElem?_getD,List.getElem?_eq_getElem hi]
 rfl
theorem class_len {l : List UInt8} (h : classL l = true) : l.length ≤ 32 := by
 unfold classL ofL at h
 simp only [Bool.and_eq_true,decide_eq_true_iff] at h
 exact h.2.2
theorem right_len {t : Ty} (h : rightT classL t = true) : t.2.length ≤ 32 := by
 rcases right_cases h with ⟨_,e⟩|⟨_,e⟩|⟨_,e⟩|⟨_,e⟩|⟨_,e⟩
 ·
  rw [e];simp
 ·
  rw [e];simp
 ·
  exact class_len e
 ·
  rw [e];simp
 ·
  exact class_len e
theorem split_short (l : List UInt8) : (splitD classL l).1.length ≤ 8 ∧ (∀ t ∈ (splitD classL l).1, t.2.length ≤ 32) ∧ (splitD classL l).2.1.2.length ≤ 32 := by
 obtain ⟨ps,t,e,hq⟩ : ∃ ps t e,splitD classL l = (ps,t,e):=⟨_,_,_,rfl⟩
 rw [hq]
 rcases split_err hq with rfl|⟨rfl,rfl,_⟩
 ·
  have h1:=types_right hq
  refine ⟨?_,fun x hx => right_len (h1 x (by simp [hx])),right_len (h1 t (by simp))⟩
  have h2:=desc_split hq
  unfold descD at h2
  split at h2
  ·
   split at h2
   ·
    simp at h2
   ·
    simp only;omega
  ·
   simp at h2
 ·
  simp
theorem renT_len {L : List (List UInt8 × List UInt8)} {M : Nat} (hL : ∀ p ∈ L, p.2.length ≤ M) {t : Ty} (ht : t.2.length ≤ M) : (renT L t).2.length ≤ M := by
 unfold renT
 split
 ·
  unfold newOf
  simp only
  split
  ·
   rename_i p hp
   exact hL p (List.mem_of_find?_eq_some hp)
  ·
   exact ht
 ·
  exact ht
def renS (l : List (S23)) (x : S102) : S102 := toS (renT (l.map pairT) (ofS x))
theorem ofS_toS (t : Ty) : ofS (toS t) = t := by
 unfold ofS toS
 rfl
theorem ren_map (l : List (S23)) (ps : List Ty) : ((ps.map toS).map (renS l)).map ofS = ps.map (renT (l.map pairT)) := by
 rw [List.map_map,List.map_map]
 apply List.map_congr_left
 intro t _
 unfold renS
 simp only [Function.comp_apply,ofS_toS]
def shortP (l : List (S23)) : Bool := l.all fun x => decide (x.f1.size ≤ 140737488355328)
theorem shortP_mem {l : List (S23)} (h : shortP l = true) : ∀ x ∈ l, x.f1.size ≤ 140737488355328 := fun x hx => of_decide_eq_true (List.all_eq_true.1 h x hx)
end Go.Proofs.YtaokkkolbifdpaaGreatDoor.Hand
end

section
namespace Go.Proofs.YtaokkkolbifdpaaGreatDoor.Hand
open Go.RowKit Go.Shelf Go.Proofs.YtaokkkolbifdpaaGreatDoorW.PrintWords Go.Proofs.YtaokkkolbifdpaaGreatDoorW.PrintLast Go.Proofs.YtaokkkolbifdpaaGreatDoorW.PrintMore
theorem add_row (g n : Nat) : (⟨g, 0, none⟩ : Addr).add n = ⟨g, n, none⟩ := by
 unfold Addr.add
 by_cases hn : n = 0
 ·
  subst hn;rfl
 ·
  rw [if_neg hn,Nat.zero_add]
def RowT (w : World) (g : Nat) (xs : List (S102)) : Prop := ∃ cs : Array Value, w.heap[g]? = some (.cells cs 102 (0, 0)) ∧ ∀ (i : Nat) (hi : i < xs.length), cs[i * 2]? = some (.int .i64 xs[i].f0) ∧ cs[i * 2 + 1]? = some (.string xs[i].f1)
theorem rowT_block {w w' : World} {g : Nat} {xs : List (S102)} (h : RowT w g xs) (hb : w'.heap[g]? = w.heap[g]?) : RowT w' g xs := by
 obtain ⟨cs,h1,h2⟩:=h
 exact ⟨cs,hb.trans h1,h2⟩
theorem rowT_lt {w : World} {g : Nat} {xs : List (S102)} (h : RowT w g xs) : g < w.heap.size := by
 obtain ⟨cs,h1,_⟩:=h
 exact (Array.getElem?_eq_some_iff.1 h1).1
theorem rowT_cells {w : World} {g : Nat} {xs : List (S102)} (h : RowT w g xs) (i : Nat) (hi : i < xs.length) : w.cell? ⟨g, i * 2, none⟩ = some (.int .i64 xs[i].f0) ∧ w.cell? ⟨g, i * 2 + 1, none⟩ = some (.string xs[i].f1) ∧ w.frozen? ⟨g, i * 2, none⟩ = false ∧ w.frozen? ⟨g, i * 2 + 1, none⟩ = false := by
 obtain ⟨cs,h1,h2⟩:=h
 exact ⟨(blk_cell h1 _).trans (h2 i hi).1,(blk_cell h1 _).trans (h2 i hi).2,blk_frozen h1 _,blk_frozen h1 _⟩
theorem rowT_second {w : World} {g : Nat} {xs : List (S102)} (h : RowT w g xs) (i : Nat) (hi : i < xs.length) (v : Value) : (w.setCell ⟨g, i * 2, none⟩ v).cell? ⟨g, i * 2 + 1, none⟩ = some (.string xs[i].f1) ∧ (w.setCell ⟨g, i * 2, none⟩ v).frozen? ⟨g, i * 2 + 1, none⟩ = false := by
 obtain ⟨cs,h1,h2⟩:=h
 have h3:=blk_set h1 (i * 2) v
 refine ⟨?_,blk_frozen h3 _⟩
 rw [blk_cell h3,Array.getElem?_setIfInBounds,if_neg (by omega)]
 exact (h2 i hi).2
theorem rowT_set {w : World} {g : Nat} {xs : List (S102)} (h : RowT w g xs) (i : Nat) (hi : i < xs.length) (k : Int) (c : ByteArray) : RowT ((w.setCell ⟨g, i * 2, none⟩ (.int .i64 k)).setCell ⟨g, i * 2 + 1, none⟩ (.string c)) g (xs.set i ⟨k, c⟩) := by
 obtain ⟨cs,h1,h2⟩:=h
 refine ⟨_,blk_set (blk_set h1 _ _) _ _,fun j hj => ?_⟩
 rw [List.length_set] at hj
 have hz : i * 2 + 1 < cs.size:=(Array.getElem?_eq_some_iff.1 (h2 i hi).2).1
 simp only [Array.getElem?_setIfInBounds,Array.size_setIfInBounds]
 by_cases e : i = j
 ·
  subst e
  rw [if_neg (by omega),if_pos rfl,if_pos (by omega),if_pos rfl,if_pos (by omega)]
  simp
 ·
  rw [if_neg (by omega),if_neg (by omega),if_neg (by omega),if_neg (by omega),List.getElem_set_ne e]
  exact h2 j hj
theorem rowT_C {w : World} {g : Nat} {xs : List (S102)} (h : RowT w g xs) (hl : xs.length ≤ 9223372036854775807) : Kd.C k102 w (some ⟨g, 0, none⟩) xs.length xs := by
 obtain ⟨cs,h1,h2⟩:=h
 refine ⟨rfl,hl,fun _ => ⟨⟨g,0,none⟩,rfl,fun j p hp => ⟨[.int .i64 p.f0,.string p.f1],rfl,k102_mk w p,fun i u hu => ?_⟩⟩⟩
 obtain ⟨hj,rfl⟩:=List.getElem?_eq_some_iff.1 hp
 have h3:=h2 j hj
 rw [show (k102).sz = 2 from rfl,add_row,blk_cell h1]
 match i,hu with
 | 0,hu => cases hu;exact h3.1
 | 1,hu => cases hu;exact h3.2
 | i + 2,hu => simp at hu
theorem rowT_R {w : World} {base : Nat} {ok : Nat → Prop} {v : Value} {xs : List (S102)} (h : Kd.R k102 102 w base ok v xs) : (v = .slice none 0 0 ∧ xs = []) ∨ ∃ g cap, v = .slice (some ⟨g, 0, none⟩) xs.length cap ∧ base ≤ g ∧ xs.length ≤ cap ∧ RowT w g xs := by
 obtain ⟨_,inner,⟨hz,ho⟩,hr1,hr2⟩:=h
 rcases ho with ⟨rfl,hn⟩|⟨g,cap,cur,rfl,hb,hh,hn,_,hcz,hcur⟩
 ·
  exact .inl ⟨rfl,List.eq_nil_of_length_eq_zero hn⟩
 ·
  refine .inr ⟨g,cap,rfl,hb,hn,cur,hh,fun i hi => ?_⟩
  have h3:=k102_openM (hr2 i xs[i] (List.getElem?_eq_getElem hi))
  have hsz : (k102).sz = 2:=rfl
  rw [hsz] at h3 hcur hz hcz
  have get : ∀ j,j < 2 → cur[i * 2 + j]? = ([.int .i64 xs[i].f0,.string xs[i].f1] : List Value)[j]?:=fun j hj => by
   have e : ((inner.drop (i * 2)).take 2)[j]? = cur[i * 2 + j]?:=by
    rw [List.getElem?_take_of_lt hj,List.getElem?_drop,← hcur,List.getElem?_take_of_lt (by omega),Array.getElem?_toList]
   rw [← e,h3]
  exact ⟨get 0 (by decide),get 1 (by decide)⟩
def RowO (w : World) (A : Option Addr) (xs : List (S102)) : Prop := xs = [] ∨ ∃ g, A = some ⟨g, 0, none⟩ ∧ RowT w g xs
theorem rowO_C {w : World} {A : Option Addr} {xs : List (S102)} (h : RowO w A xs) (hl : xs.length ≤ 9223372036854775807) : Kd.C k102 w A xs.length xs := by
 rcases h with rfl|⟨g,rfl,h⟩
 ·
  exact ⟨rfl,by decide,fun h => absurd h (Nat.lt_irrefl 0)⟩
 ·
  exact rowT_C h hl
theorem rowO_below {w w' : World} {A : Option Addr} {xs : List (S102)} (h : RowO w A xs) (hb : Below w.heap.size w w') : RowO w' A xs := by
 rcases h with rfl|⟨g,rfl,h⟩
 ·
  exact .inl rfl
 ·
  exact .inr ⟨g,rfl,rowT_block h (hb.block g (rowT_lt h))⟩
def renTo (l : List (S23)) (xs : List (S102)) (i : Nat) : List (S102) := (xs.take i).map (renS l) ++ xs.drop i
theorem renTo_len (l : List (S23)) (xs : List (S102)) (i : Nat) (hi : i ≤ xs.length) : (renTo l xs i).length = xs.length := by
 unfold renTo
 rw [List.length_append,List.length_map,List.length_take,List.length_drop]
 omega
theorem renTo_get (l : List (S23)) (xs : List (S102)) (i : Nat) (hi : i < xs.length) : (renTo l xs i)[i]'(by rw [renTo_len l xs i (by omega)]; exact hi) = xs[i] := by
 unfold renTo
 have hl : ((xs.take i).map (renS l)).length = i:=by rw [List.length_map,List.length_take];omega
 rw [List.getElem_append_right (by omega)]
 simp only [List.getElem_drop,hl,Nat.sub_self,Nat.add_zero]
theorem renTo_set (l : List (S23)) (xs : List (S102)) (i : Nat) (hi : i < xs.length) : (renTo l xs i).set i (renS l xs[i]) = renTo l xs (i + 1) := by
 unfold renTo
 have hl : ((xs.take i).map (renS l)).length = i:=by rw [List.length_map,List.length_take];omega
 rw [List.set_append_right i _ (by omega),hl,Nat.sub_self,List.drop_eq_getElem_cons hi,List.set_cons_zero,List.take_add_one,List.getElem?_eq_getElem hi,List.map_append]
 simp
theorem renTo_all (l : List (S23)) (xs : List (S102)) : renTo l xs xs.length = xs.map (renS l) := by
 unfold renTo
 rw [List.take_length,List.drop_length,List.append_nil]
theorem rowO_R {w : World} {base : Nat} {ok : Nat → Prop} {v : Value} {xs : List (S102)} (h : Kd.R k102 102 w base ok v xs) {n : Nat} (hn : xs.length = n) : ∃ (A : Option Addr) (c : Nat), v = .slice A n c ∧ RowO w A xs ∧ (∀ a, A = some a → base ≤ a.block ∧ a.block < w.heap.size) ∧ n ≤ c := by
 rcases rowT_R h with ⟨rfl,rfl⟩|⟨g,cap,rfl,hb,hc,hr⟩
 ·
  subst hn
  exact ⟨none,0,rfl,.inl rfl,fun a ha => (by cases ha),Nat.le_refl _⟩
 ·
  subst hn
  exact ⟨_,cap,rfl,.inr ⟨g,rfl,hr⟩,fun a ha => (by cases ha;exact ⟨hb,rowT_lt hr⟩),hc⟩
theorem rowO_at {w : World} {A : Option Addr} {xs : List (S102)} (h : RowO w A xs) (i : Nat) (hi : i < xs.length) : ∃ g : Nat, A = some ⟨g, 0, none⟩ ∧ RowT w g xs := by
 rcases h with rfl|h
 ·
  simp at hi
 ·
  exact h
theorem renS_short (l : List (S23)) (hL : ∀ x ∈ l, x.f1.size ≤ 140737488355328) (x : S102) (hx : x.f1.size ≤ 140737488355328) : (renS l x).f1.size ≤ 140737488355328 := by
 have hL2 : ∀ p ∈ l.map pairT,p.2.length ≤ 140737488355328:=fun p hp => by
  obtain ⟨x,hx,rfl⟩:=List.mem_map.1 hp
  show (bl x.f1).length ≤ _
  rw [bl_len]
  exact hL x hx
 show (lb (renT (l.map pairT) (ofS x)).2).size ≤ _
 rw [lb_size]
 exact renT_len hL2 (by show (bl x.f1).length ≤ _;rw [bl_len];exact hx)
theorem kind_renamed (s : ByteArray) (A : Option Addr) (cp : Nat) (l : List (S23)) (w : World) (hM : MaxL w) (hs : s.size ≤ 1048576) (hC : Kd.C k23 w A l.length l) (hcp : l.length ≤ cp) (hl : l.length ≤ 1048576) (hL : ∀ x ∈ l, x.f1.size ≤ 140737488355328) :
  Calls Tryz.prog 76 #[.string s,.slice A l.length cp] w fun e w' => e = .returned (.string (lb (renD classL (bl s) (l.map pairT)))) ∧ Below w.heap.size w w':=by
 have hSp:=kind_split s w hM hs
 obtain ⟨h8,hps32,ht32⟩:=split_short (bl s)
 obtain ⟨ps,t,e,hq⟩ : ∃ ps t e,splitD classL (bl s) = (ps,t,e):=⟨_,_,_,rfl⟩
 unfold endSp at hSp
 rw [hq] at hSp h8 hps32 ht32
 simp only at h8 hps32 ht32
 by_cases h0 : e = 0
 ·
  subst h0
  have hren : renD classL (bl s) (l.map pairT) = (descD classL (renT (l.map pairT) t) (ps.map (renT (l.map pairT)))).1:=by
   unfold renD
   rw [hq]
   rfl
  rw [hren]
  have HSp:=aq hSp
  have HXs : Aside0 (∀ x ∈ ps.map toS,x.f1.size ≤ 140737488355328):=⟨fun x hx => by
   obtain ⟨y,hy,rfl⟩:=List.mem_map.1 hx
   show (lb y.2).size ≤ _
   rw [lb_size]
   have:=hps32 y hy
   omega⟩
  have HR:=aq (fun (k : Int) (c : ByteArray) (W : World) (hW : Below w.heap.size w W) => kind_ren k c A cp l W (Kd.C_below hC hW) hcp hl)
  have HT32:=aq ht32
  have HRS:=aq (renS_short l hL)
  have HRM:=aq (ren_map l ps)
  obtain ⟨k,c⟩:=t
  have h8' : ps.length ≤ 8:=h8
  clear hSp hq h8 hps32 ht32 hC hM hren hL
  go_enter Tryz.func76,Tryz.ntmps76
  go_wp2_with (go_at_call 101;refine HSp.out.mono ?_;rintro e w1 ⟨v,rfl,hrow,hb⟩;obtain ⟨A5,c5,rfl,hRO,hA5,hc5⟩:=rowO_R hrow (n:=ps.length) (by rw [List.length_map]);have HRO:=aq hRO;have HA5:=aq hA5;have HB1:=aq hb;have HTy1 : Aside0 (TyAt (w1.alloc (.cells #[.int .i64 k,.string (lb c)] 102)) w1.heap.size (k,c)):=⟨World.alloc_heap_new _ _⟩;have HBx:=aq (below_alloc hb (.cells #[.int .i64 k,.string (lb c)] 102));have HRx:=aq (rowO_below hRO (below_alloc (Below.refl _ w1) (.cells #[.int .i64 k,.string (lb c)] 102)));clear hrow hRO hA5 hb)
  go_loopg [22] ps.length (fun kq v22 wr => ∃ i : Nat,v22 = .int .i64 (i : Int) ∧ i + kq = ps.length ∧ Aside0 (Below w.heap.size w wr) ∧ Aside0 (TyAt wr w1.heap.size (k,c)) ∧ Aside0 (RowO wr A5 (renTo l (ps.map toS) i)))
  case atStart => exact ⟨0,rfl,by omega,HBx,HTy1,HRx⟩
  case round =>
   obtain ⟨i,rfl,hi,HB,HTy,HRow⟩:=hrel
   have HLen:=aq (renTo_len l (ps.map toS) i (by rw [List.length_map];omega))
   by_cases hlt : i < ps.length
   ·
    have hi2 : i < (ps.map toS).length:=by rw [List.length_map];exact hlt
    have hi3 : i < (renTo l (ps.map toS) i).length:=by rw [HLen.out];exact hi2
    obtain ⟨g,hg,_⟩:=rowO_at HRow.out i hi3
    obtain ⟨ad,hAd⟩ : ∃ ad : Addr,ad = ⟨g,0,none⟩:=⟨_,rfl⟩
    rw [← hAd] at hg
    subst hg
    have HGb:=aq (HA5.out _ rfl)
    have HAd:=aq hAd
    have HCells : Aside0 (∀ W,RowO W (some ad) (renTo l (ps.map toS) i) → RowT W g (renTo l (ps.map toS) i)):=⟨fun W hW => by
     obtain ⟨g',hg',hr⟩:=rowO_at hW i hi3
     rw [HAd.out] at hg'
     cases hg'
     exact hr⟩
    have HGet:=aq (renTo_get l (ps.map toS) i hi2)
    have HSet:=aq (renTo_set l (ps.map toS) i hi2)
    obtain ⟨x,hx⟩ : ∃ x,(ps.map toS)[i] = x:=⟨_,rfl⟩
    rw [hx] at HGet HSet
    have HCell2 : Aside0 (∀ W,Below wr.heap.size wr W → W.cell? (ad.add (i * 2)) = some (.int .i64 x.f0) ∧ W.cell? ⟨(ad.add (i * 2)).block,(ad.add (i * 2)).off + 1,none⟩ = some (.string x.f1) ∧ W.frozen? (ad.add (i * 2)) = false ∧ W.frozen? ⟨(ad.add (i * 2)).block,(ad.add (i * 2)).off + 1,none⟩ = false):=⟨fun W hW => by
     have h:=rowT_cells (HCells.out _ (rowO_below HRow.out hW)) i hi3
     rw [HGet.out] at h
     rw [HAd.out,add_row]
     exact h⟩
    obtain ⟨p0,p1,q0,q1⟩:=HCell2.out wr (Below.refl _ _)
    have HCell3 : Aside0 (∀ W,Below wr.heap.size wr W → ∀ v,(W.setCell (ad.add (i * 2)) v).cell? ⟨(ad.add (i * 2)).block,(ad.add (i * 2)).off + 1,none⟩ = some (.string x.f1) ∧ (W.setCell (ad.add (i * 2)) v).frozen? ⟨(ad.add (i * 2)).block,(ad.add (i * 2)).off + 1,none⟩ = false):=⟨fun W hW v => by
     have h:=rowT_second (HCells.out _ (rowO_below HRow.out hW)) i hi3 v
     rw [HGet.out] at h
     rw [HAd.out,add_row]
     exact h⟩
    have HRen:=aq (fun (W : World) (hW : Below w.heap.size w W) => HR.out x.f0 x.f1 W hW)
    obtain ⟨k2,hk2⟩ : ∃ k2,(renT (l.map pairT) (x.f0,bl x.f1)).1 = k2:=⟨_,rfl⟩
    obtain ⟨c2,hc2⟩ : ∃ c2,(renT (l.map pairT) (x.f0,bl x.f1)).2 = c2:=⟨_,rfl⟩
    have hrs : renS l x = ⟨k2,lb c2⟩:=by
     rw [← hk2,← hc2]
     rfl
    rw [hk2,hc2] at HRen
    rw [hrs] at HSet
    have hd : decide ((i : Int) < (ps.length : Int)) = true:=decide_eq_true (by omega)
    have HI3:=aq hi3
    clear hx hk2 hc2 hrs hAd
    go_wp2_with (go_at_call 102;refine (HRen.out _ (below_alloc HB.out _)).mono ?_;rintro e w2 ⟨rfl,hb⟩;have hbb : Below wr.heap.size wr w2:=(below_alloc (Below.refl _ _) _).trans (hb.mono (by simp));have HB2:=aq hbb;obtain ⟨s0,s1,t0,t1⟩:=HCell2.out _ hbb;obtain ⟨s2,t2⟩:=HCell3.out _ hbb (.int .i64 k2);clear hb hbb)
    go_roundg (gk - 1)
    case measure => omega
    case rel =>
     have hE : ad.add (i * 2) = ⟨g,i * 2,none⟩:=by rw [HAd.out,add_row]
     have hgb:=HGb.out
     rw [HAd.out] at hgb
     simp only at hgb
     simp only [hE]
     refine ⟨i + 1,by simp,by omega,⟨?_⟩,⟨?_⟩,⟨?_⟩⟩
     ·
      exact ((HB.out.trans (HB2.out.mono HB.out.size)).setCell (p:=⟨g,i * 2,none⟩) hgb.1 _).setCell (p:=⟨g,i * 2 + 1,none⟩) hgb.1 _
     ·
      exact ty_kept (ty_kept (ty_below HTy.out HB2.out) (scan_setCell w2 ⟨g,i * 2,none⟩ _) (by simp;omega)) (scan_setCell _ ⟨g,i * 2 + 1,none⟩ _) (by simp;omega)
     ·
      have h:=rowT_set (HCells.out _ (rowO_below HRow.out HB2.out)) i HI3.out k2 (lb c2)
      rw [HSet.out] at h
      exact .inr ⟨g,by rw [HAd.out],h⟩
   ·
    have hi2 : i = ps.length:=by omega
    have hd : decide ((i : Int) < (ps.length : Int)) = false:=decide_eq_false (by omega)
    obtain ⟨c0,c1,f0,f1⟩:=ty_cells HTy.out
    have hrow:=HRow.out
    have hall:=renTo_all l (ps.map toS)
    rw [List.length_map] at hall
    rw [hi2,hall] at hrow
    obtain ⟨xs,hxs⟩ : ∃ xs,(ps.map toS).map (renS l) = xs:=⟨_,rfl⟩
    have hlen : xs.length = ps.length:=by rw [← hxs,List.length_map,List.length_map]
    have HXs2 : ∀ y ∈ xs,y.f1.size ≤ 140737488355328:=fun y hy => by
     rw [← hxs] at hy
     obtain ⟨x,hx,rfl⟩:=List.mem_map.1 hy
     exact HRS.out x (HXs.out x hx)
    have hxo : xs.map ofS = ps.map (renT (l.map pairT)):=by rw [← hxs];exact HRM.out
    rw [hxs] at hrow
    obtain ⟨k2,hk2⟩ : ∃ k2,(renT (l.map pairT) (k,c)).1 = k2:=⟨_,rfl⟩
    obtain ⟨c2,hc2⟩ : ∃ c2,(renT (l.map pairT) (k,c)).2 = c2:=⟨_,rfl⟩
    have hkc : renT (l.map pairT) (k,c) = (k2,c2):=by rw [← hk2,← hc2]
    have hc2l : (lb c2).size ≤ 140737488355328:=by
     have h:=HRS.out ⟨k,lb c⟩ (by show (lb c).size ≤ _;rw [lb_size];have:=HT32.out;omega)
     have e : (renS l ⟨k,lb c⟩).f1 = lb c2:=by
      show lb (renT (l.map pairT) (k,bl (lb c))).2 = lb c2
      rw [bl_lb,hc2]
     rw [e] at h
     exact h
    have HRen:=aq (fun (W : World) (hW : Below w.heap.size w W) => HR.out k (lb c) W hW)
    rw [bl_lb,hk2,hc2] at HRen
    have HD:=aq (fun (W : World) (hW : Below wr.heap.size wr W) => kind_desc k2 (lb c2) A5 c5 xs W (rowO_C (rowO_below hrow hW) (by omega)) (by omega) (by omega) HXs2 hc2l)
    rw [bl_lb,hxo,hlen] at HD
    clear hrow HXs2 hxo hall hxs hlen hk2 hc2 hc2l
    have HKC:=aq hkc
    clear hkc
    go_wp2_with (first|(go_at_call 102;refine (HRen.out _ HB.out).mono ?_;rintro e w2 ⟨rfl,hb⟩;have HB2:=aq hb;clear hb)|(go_at_call 103;refine (HD.out _ HB2.out).mono ?_;rintro e w3 ⟨rfl,hb⟩;have HB3:=aq ((HB.out.trans (HB2.out.mono HB.out.size)).trans (hb.mono (Nat.le_trans HB.out.size HB2.out.size)));clear hb))
    go_ret
    exact ⟨by rw [HKC.out];rfl,HB3.out⟩
 ·
  have hren : renD classL (bl s) (l.map pairT) = []:=by
   unfold renD
   rw [hq]
   exact if_neg h0
  rw [hren]
  obtain ⟨rfl,rfl,he⟩:=(split_err hq).resolve_left h0
  have HSp:=aq hSp
  clear hSp hq hC hM hren hL h8 hps32 ht32
  have hne : (e != 0) = true:=by simp [h0]
  have heq : (e == 0) = false:=by simp [h0]
  clear he h0
  go_enter Tryz.func76,Tryz.ntmps76
  go_wp2_with (go_at_call 101;refine HSp.out.mono ?_;rintro e w1 ⟨v,rfl,hrow,hb⟩;have HBx:=aq (below_alloc hb (.cells #[.int .i64 0,.string (lb [])] 102));obtain ⟨A5,c5,rfl⟩:=Kd.R_slice hrow;clear hrow hb)
  go_ret
  exact ⟨rfl,HBx.out⟩
def kind_Renamed.f (s : ByteArray) (l : List (S23)) : Option ByteArray := if s.size ≤ 1048576 ∧ l.length ≤ 1048576 ∧ shortP l = true then some (lb (renD classL (bl s) (l.map pairT))) else none
theorem kind_Renamed.calls (a0 : ByteArray) (A1 : Option Addr) (c1 : Nat) (l1 : List (S23)) (r : ByteArray) (w : World) (hr1 : Kd.C k23 w A1 l1.length l1) (hc1 : l1.length ≤ c1) (hGMaxL : MaxL w) (h : kind_Renamed.f a0 l1 = some r) :
  Calls Tryz.prog 76 #[.string a0,.slice A1 l1.length c1] w fun e w' => e = .returned (.string r) ∧ Below w.heap.size w w':=by
 unfold kind_Renamed.f at h
 split at h
 ·
  rename_i hs
  cases h
  exact kind_renamed a0 A1 c1 l1 w hGMaxL hs.1 hr1 hc1 hs.2.1 (shortP_mem hs.2.2)
 ·
  cases h
end Go.Proofs.YtaokkkolbifdpaaGreatDoor.Hand
end

section
namespace Go.Proofs.YtaokkkolbifdpaaGreatDoor.Q12
open Go.RowKit Go.Proofs.YtaokkkolbifdpaaGreatDoorW
open PrintWords PrintLast PrintMore Go.Proofs.YtaokkkolbifdpaaGreatDoor.Hand
attribute [local go_sem] max2_int min2_int max_two min_two max_three min_three max_four min_four
def errW : Option Int → Value
  | none => .nilIface
  | some c => .iface 0 (.int .i64 c)
theorem errW_none : errW none = .nilIface := rfl
theorem errW_some (c : Int) : errW (some c) = .iface 0 (.int .i64 c) := rfl
theorem info9 : (Tryz.prog.info? 9).map (fun i => (i.zero, i.size, i.bytes)) = some (some (.string ⟨#[]⟩), 1, 16) := by kernel_rfl
theorem info102 : (Tryz.prog.info? 102).map (fun i => (i.zero, i.size, i.bytes)) = some (some (.agg #[(.int .i64 0), (.string ⟨#[]⟩)]), 2, 24) := by kernel_rfl
def kind_Classes.l0 : Nat → List ByteArray → List (S102) → Int → Int → Option (List ByteArray)
  | 0,_,_,_,_ => none
  | k + 1,x6,x20,x21,x22 => if x22 < x21 then (if 0 ≤ x22 then (if x22 < (x20.length : Int) then (if ((rd_T102 x20 x22).f1).toList = ([] : List UInt8) then (kind_Classes.l0 k x6 x20 x21 (wrap64 (x22 + 1))) else (if x6.length < 8796093022208 then (kind_Classes.l0 k (x6 ++ [(rd_T102 x20 x22).f1]) x20 x21 (wrap64 (x22 + 1))) else (none))) else (none)) else (none)) else (some x6)
def kind_Classes.f (k : Nat) (a0 : ByteArray) : Option (List ByteArray) := (kind_Split.f a0).bind fun bt101 => (if bt101.2.2.2 = 0 then (if bt101.1.length < 5864062014805 then ((some (bt101.1 ++ [(⟨bt101.2.1, bt101.2.2.1⟩ : S102)] : List (S102))).bind fun y108 => (kind_Classes.l0 k ([] : List ByteArray) y108 (y108.length : Int) 0)) else (none)) else (some ([] : List ByteArray)))
theorem kind_Classes.calls (k : Nat) (a0 : ByteArray) (r : List ByteArray) (w : World) (hGMaxL : MaxL w) (h : kind_Classes.f k a0 = some r) :
    Calls Tryz.prog 78 #[.string a0] w fun e w' => ∃ v0_ : Value,e = .returned (v0_) ∧ Kd.R Kd.string 9 w' w.heap.size (fun _ => True) v0_ r ∧ Below w.heap.size w w':=by
 have hu102:=Tryz.underlying102
 have HGMaxL:=aq hGMaxL
 clear hGMaxL
 have HB:=aq (Below.refl w.heap.size w)
 have H : ((kind_Split.f a0).bind fun bt101 => (if bt101.2.2.2 = 0 then (if bt101.1.length < 5864062014805 then ((some (bt101.1 ++ [(⟨bt101.2.1,bt101.2.2.1⟩ : S102)] : List (S102))).bind fun y108 => (kind_Classes.l0 k ([] : List ByteArray) y108 (y108.length : Int) 0)) else (none)) else (some ([] : List ByteArray)))) = some r:=h
 clear h
 replace H:=Option.bind_eq_some_iff.mp H
 obtain ⟨⟨t101,t104,t105,t106⟩,A20,H⟩:=H
 replace H : (if t106 = 0 then (if t101.length < 5864062014805 then ((some (t101 ++ [(⟨t104,t105⟩ : S102)] : List (S102))).bind fun y108 => (kind_Classes.l0 k ([] : List ByteArray) y108 (y108.length : Int) 0)) else (none)) else (some ([] : List ByteArray))) = some r:=H
 have A2:=aq A20
 clear A20
 by_cases c3 : t106 = 0
 rotate_left
 · rw [if_neg c3] at H
   have c3b0 : (t106 == 0) = false:=beq_eq_false_iff_ne.mpr c3
   have c3b1 : (t106 != 0) = true:=bne_iff_ne.mpr c3
   obtain rfl:=Option.some.inj H
   go_enter Tryz.func78,Tryz.ntmps78
   go_wp2_with (first|((with_reducible refine gate_callee (f:=101) rfl ?_);refine goesL_ (some 11) rfl rfl Tryz.func101 (by kernel_rfl) rfl #[.string a0] rfl eA ?_;(with_reducible refine (kind_Split.calls a0 t101 t104 t105 t106 _ ?side1 A2.out).mono ?_);(case side1 => exact MaxL.below HGMaxL.out bH);rintro e w22 ⟨v102,rfl,ho0,hb⟩;refine ⟨_,rfl,?_⟩;have HO103:=aq (Kd.R_lower ho0 (below_size bH));replace HB:=aq (below_step bH hb);(try clear hb);(try clear hb2);(try clear hk);(try clear hi);(try clear ho0))|((with_reducible refine gate_dst (N:=4) rfl ?_);refine box_event rfl (N:=4) rfl (cs:=#[.int .i64 0,.string (⟨#[]⟩ : ByteArray)]) (t:=102) gS ?_;intro gb107 hg w23 hbox hb;have BK107:=aq (hbox);have GE107:=aq ((GN hg : w.heap.size ≤ gb107));replace HO103:=aq (Kd.R_below (Kd.R_elderB (RU HO103.out) gb107 (Nat.le_of_eq hg.symm)) hb);replace HB:=aq (below_step bH hb);clear hb hbox hg;have hcz24_0 : w23.cell? ⟨gb107,0,none⟩ = some (.int .i64 0):=(blk_cell BK107.out 0).trans rfl;have hcz24_1 : w23.cell? ⟨gb107,1,none⟩ = some (.string (⟨#[]⟩ : ByteArray)):=(blk_cell BK107.out 1).trans rfl;have hfz24_0:=blk_frozen BK107.out 0;have hfz24_1:=blk_frozen BK107.out 1))
   go_ret
   exact ⟨_,eR,by first|exact Kd.R_nil _ _ _ _ _|exact Kd.N_nil _ _ _ _ _|exact Kd.V_nil _ _ _ _ _|exact Kd.Q_nil _ _ _ _ _|exact Kd.S_nil _ _ _ _ _,bH⟩
 rw [if_pos c3] at H
 have c3b0 : (t106 == 0) = true:=beq_iff_eq.mpr c3
 have c3b1 : (t106 != 0) = false:=bne_eq_false_iff_eq.mpr c3
 clear c3
 by_cases c4 : t101.length < 5864062014805
 rotate_left
 · rw [if_neg c4] at H
   exact absurd H (by simp)
 rw [if_pos c4] at H
 have LMc4:=aq c4
 clear c4
 obtain ⟨y108,hy108⟩ : ∃ y_ : List (S102),y_ = (t101 ++ [(⟨t104,t105⟩ : S102)]):=⟨_,rfl⟩
 replace H : (kind_Classes.l0 k ([] : List ByteArray) y108 (y108.length : Int) 0) = some r:=by first|(rw [hy108];with_reducible exact H)|(have H2_:=(Option.bind_some _ _).symm.trans H;rw [hy108];with_reducible exact H2_)|(have H2_:=(Option.bind_some _ _).symm.trans H;with_reducible exact H2_)|with_reducible exact H|(rw [hy108];exact H)|exact H
 have Ny108:=aq hy108
 clear hy108
 have H':=aq H
 clear H
 go_enter Tryz.func78,Tryz.ntmps78
 go_wp2_with (first|((with_reducible refine gate_callee (f:=101) rfl ?_);refine goesL_ (some 11) rfl rfl Tryz.func101 (by kernel_rfl) rfl #[.string a0] rfl eA ?_;(with_reducible refine (kind_Split.calls a0 t101 t104 t105 t106 _ ?side1 A2.out).mono ?_);(case side1 => exact MaxL.below HGMaxL.out bH);rintro e w5 ⟨v102,rfl,ho0,hb⟩;refine ⟨_,rfl,?_⟩;have HO103:=aq (Kd.R_lower ho0 (below_size bH));replace HB:=aq (below_step bH hb);(try clear hb);(try clear hb2);(try clear hk);(try clear hi);(try clear ho0))|((with_reducible refine gate_dst (N:=4) rfl ?_);refine box_event rfl (N:=4) rfl (cs:=#[.int .i64 0,.string (⟨#[]⟩ : ByteArray)]) (t:=102) gS ?_;intro gb107 hg w6 hbox hb;have BK107:=aq (hbox);have GE107:=aq ((GN hg : w.heap.size ≤ gb107));replace HO103:=aq (Kd.R_below (Kd.R_elderB (RU HO103.out) gb107 (Nat.le_of_eq hg.symm)) hb);replace HB:=aq (below_step bH hb);clear hb hbox hg;have hcz7_0 : w6.cell? ⟨gb107,0,none⟩ = some (.int .i64 0):=(blk_cell BK107.out 0).trans rfl;have hcz7_1 : w6.cell? ⟨gb107,1,none⟩ = some (.string (⟨#[]⟩ : ByteArray)):=(blk_cell BK107.out 1).trans rfl;have hfz7_0:=blk_frozen BK107.out 0;have hfz7_1:=blk_frozen BK107.out 1)|((with_reducible refine gate_builtin (b:=.append) (xs:=#[.tmp 17,.tmp 19]) rfl ?_);at_builtin;refine Kd.R_append k102 (w0:=w) w.heap.size rfl (.tmp 17) (.tmp 19) 99 102 (.agg #[(.int .i64 0),(.string ⟨#[]⟩)]) 24 rfl Tryz.underlying99 info102 rfl (by decide) (by omega) v102 t101 (⟨t104,t105⟩ : S102) [.int .i64 t104,.string t105] (fun k_ => k_ ≠ gb107) (fun _ => False) rfl (by first|(go_simp;done)|(go_simp;rfl)) ?aP (fun _ hk => hk.elim) ?aF ?aO ?aB ?aS ?aL ?_;(case aP => exact k102_mkM _ _ _ (⟨t104,t105⟩ : S102));(case aB => exact bH);(case aF => exact (fun k_ hk => Kd.freshB (g:=gb107) (o:=.cells #[.int .i64 t104,.string t105] 102 (0,0)) (by refine KU ?_;refine blk_put (cs:=#[.int .i64 t104,.string (⟨#[]⟩ : ByteArray)]) ?_ 1 _ rfl;refine KU ?_;refine blk_put (cs:=#[.int .i64 0,.string (⟨#[]⟩ : ByteArray)]) ?_ 0 _ rfl;refine KU ?_;exact BK107.out) k_ hk));(case aO => exact (by (with_reducible repeat (first|apply Kd.R_alloc|apply Kd.R_drewN|apply Kd.R_drew));exact Kd.R_mono (RF gb107 1 (RF gb107 0 (Kd.R_mono HO103.out (fun k_ hk => (⟨hk,hk.2⟩ : _ ∧ k_ ≠ gb107))) (.int .i64 t104)) (.string t105)) (fun _ hk => hk.1.2)));(case aS => exact (below_size bH));(case aL => have:=LMc4.out;omega);intro v109 w8 ho hb hg hat;rw [← Ny108.out] at ho;have n0_:=aq (blk_grown (g:=gb107) (o:=.cells #[.int .i64 t104,.string t105] 102 (0,0)) (by refine KU ?_;refine blk_put (cs:=#[.int .i64 t104,.string (⟨#[]⟩ : ByteArray)]) ?_ 1 _ rfl;refine KU ?_;refine blk_put (cs:=#[.int .i64 0,.string (⟨#[]⟩ : ByteArray)]) ?_ 0 _ rfl;refine KU ?_;exact BK107.out) hg (Kd.R_away HO103.out (fun _ hk => hk.2)));have n1_:=aq (hb);have n2_:=aq (ho);clear BK107;clear HB;clear HO103;have BK107:=n0_;have HB:=n1_;have HO110:=n2_;clear n0_ n1_ n2_;clear ho hb hg hat;obtain ⟨Ao9,co9,eo9⟩:=Kd.R_slice HO110.out;subst eo9))
 go_loopg [6,22] k (fun kq v6 v22 w' => ∃ (x6_1 : List ByteArray) (x22_1 : Int),v22 = .int .i64 x22_1 ∧ Aside0 (kind_Classes.l0 kq x6_1 y108 (y108.length : Int) x22_1 = some r) ∧ Aside0 (kq ≤ k) ∧ Aside0 (Kd.R Kd.string 9 w' w.heap.size (fun _ => True) v6 x6_1) ∧ Aside0 (Kd.R k102 102 w' w.heap.size (fun k_ => k_ ≠ gb107) (.slice Ao9 y108.length co9) y108) ∧ Aside0 (w'.heap[gb107]? = some (.cells #[.int .i64 t104,.string t105] 102 (0,0))) ∧ Aside0 (Below w.heap.size w w'))
 case atStart => exact ⟨(([] : List ByteArray)),(0),eS,H',⟨Nat.le_refl _⟩,⟨by first|exact Kd.R_nil _ _ _ _ _|exact Kd.N_nil _ _ _ _ _|exact Kd.V_nil _ _ _ _ _|exact Kd.Q_nil _ _ _ _ _|exact Kd.S_nil _ _ _ _ _⟩,⟨by (with_reducible repeat (first|apply Kd.R_alloc|apply Kd.R_drewN|apply Kd.R_drew));exact HO110.out⟩,⟨KU BK107.out⟩,⟨bH⟩⟩
 case round =>
 clear H'
 (try clear c3);(try clear c3b0);(try clear c3b1);(try clear c4);(try clear hcz7_0);(try clear hcz7_1);(try clear hfz7_0);(try clear hfz7_1)
 obtain ⟨x6_1,x22_1,rfl,HA,HK1,HO_6,HO_20,BK107,HB⟩:=hrel
 cases gk with
 | zero => exact absurd HA.out (by simp [kind_Classes.l0])
 | succ k1 =>
 have H:=HA.out
 clear HA
 simp only [kind_Classes.l0] at H
 by_cases c10 : x22_1 < (y108.length : Int)
 rotate_left
 · rw [if_neg c10] at H
   have c10b0 : decide (x22_1 < (y108.length : Int)) = false:=decide_eq_false c10
   clear c10
   obtain rfl:=Option.some.inj H
   go_wp2
   go_ret
   exact ⟨_,eR,by (with_reducible repeat (first|apply Kd.R_alloc|apply Kd.R_drewN|apply Kd.R_drew));exact HO_6.out,bH⟩
 rw [if_pos c10] at H
 have c10b0 : decide (x22_1 < (y108.length : Int)) = true:=decide_eq_true c10
 clear c10
 by_cases c11 : 0 ≤ x22_1
 rotate_left
 · rw [if_neg c11] at H
   exact absurd H (by simp)
 rw [if_pos c11] at H
 have c11b0 : decide (0 ≤ x22_1) = true:=decide_eq_true c11
 clear c11
 by_cases c12 : x22_1 < (y108.length : Int)
 rotate_left
 · rw [if_neg c12] at H
   exact absurd H (by simp)
 rw [if_pos c12] at H
 have c12b0 : decide (x22_1 < (y108.length : Int)) = true:=decide_eq_true c12
 clear c12
 by_cases c13 : ((rd_T102 y108 x22_1).f1).toList = ([] : List UInt8)
 · rw [if_pos c13] at H
   have c13b0 : (((rd_T102 y108 x22_1).f1).toList == ([] : List UInt8)) = true:=beq_iff_eq.mpr c13
   have c13b1 : (((rd_T102 y108 x22_1).f1).toList != ([] : List UInt8)) = false:=bne_eq_false_iff_eq.mpr c13
   clear c13
   have H':=aq H
   clear H
   have p111 : 0 ≤ (x22_1 : Int):=of_decide_eq_true aS
   have q111 : x22_1 < (y108.length : Int):=of_decide_eq_true aS
   obtain ⟨ad111,e111,hx111_0,hx111_1⟩:=at_T102 (Kd.R_reads' HO_20.out).2.2 x22_1 p111 q111
   cases e111
   replace p111:=eq_true p111
   replace q111:=eq_true q111
   go_wp2_with (first|((with_reducible refine gate_dst (N:=8) rfl ?_);refine box_event rfl (N:=8) rfl (cs:=#[.int .i64 0,.string (⟨#[]⟩ : ByteArray)]) (t:=102) gS ?_;intro gb112 hg w14 hbox hb;have BK112:=aq (hbox);have GE112:=aq ((GN hg : w.heap.size ≤ gb112));have NB107_112:=aq (NL hg BK107);have NB112_107:=aq (NG hg BK107);replace HO_6:=RN HO_6 hb;replace HO_20:=aq (Kd.R_below (Kd.R_elderB (RU HO_20.out) gb112 (Nat.le_of_eq hg.symm)) hb);replace BK107:=KN BK107 hb;replace HB:=aq (below_step bH hb);clear hb hbox hg;have hnb15:=NB112_107.out;have hnc15:=NB107_112.out;have hcz16_0 : w14.cell? ⟨gb112,0,none⟩ = some (.int .i64 0):=(blk_cell BK112.out 0).trans rfl;have hcz16_1 : w14.cell? ⟨gb112,1,none⟩ = some (.string (⟨#[]⟩ : ByteArray)):=(blk_cell BK112.out 1).trans rfl;have hfz16_0:=blk_frozen BK112.out 0;have hfz16_1:=blk_frozen BK112.out 1))
   go_roundg k1
   case measure => have:=HK1.out;omega
   case rel => exact ⟨(x6_1),(wrap64 (x22_1 + 1)),eS,H',⟨by have:=HK1.out;omega⟩,⟨by (with_reducible repeat (first|apply Kd.R_alloc|apply Kd.R_drewN|apply Kd.R_drew));exact Kd.R_mono (RF gb112 1 (RF gb112 0 (Kd.R_types HO_6.out BK112.out (by decide)) (.int .i64 ((rd_T102 y108 x22_1).f0))) (.string ((rd_T102 y108 x22_1).f1))) (fun _ hk => trivial)⟩,⟨by (with_reducible repeat (first|apply Kd.R_alloc|apply Kd.R_drewN|apply Kd.R_drew));exact Kd.R_mono (RF gb112 1 (RF gb112 0 (Kd.R_mono HO_20.out (fun k_ hk => (⟨hk,hk.2⟩ : _ ∧ k_ ≠ gb112))) (.int .i64 ((rd_T102 y108 x22_1).f0))) (.string ((rd_T102 y108 x22_1).f1))) (fun _ hk => hk.1.1)⟩,⟨by refine KU ?_;refine blk_far ?_ NB107_112.out _;refine KU ?_;refine blk_far ?_ NB107_112.out _;refine KU ?_;exact BK107.out⟩,⟨bH⟩⟩
 rw [if_neg c13] at H
 have c13b0 : (((rd_T102 y108 x22_1).f1).toList == ([] : List UInt8)) = false:=beq_eq_false_iff_ne.mpr c13
 have c13b1 : (((rd_T102 y108 x22_1).f1).toList != ([] : List UInt8)) = true:=bne_iff_ne.mpr c13
 by_cases c17 : x6_1.length < 8796093022208
 rotate_left
 · rw [if_neg c17] at H
   exact absurd H (by simp)
 rw [if_pos c17] at H
 have LMc17:=aq c17
 clear c17
 obtain ⟨y113,hy113⟩ : ∃ y_ : List ByteArray,y_ = (x6_1 ++ [(rd_T102 y108 x22_1).f1]):=⟨_,rfl⟩
 replace H : (kind_Classes.l0 k1 y113 y108 (y108.length : Int) (wrap64 (x22_1 + 1))) = some r:=by first|(rw [hy113];with_reducible exact H)|(have H2_:=(Option.bind_some _ _).symm.trans H;rw [hy113];with_reducible exact H2_)|(have H2_:=(Option.bind_some _ _).symm.trans H;with_reducible exact H2_)|with_reducible exact H|(rw [hy113];exact H)|exact H
 have Ny113:=aq hy113
 clear hy113
 have H':=aq H
 clear H
 have p111 : 0 ≤ (x22_1 : Int):=of_decide_eq_true aS
 have q111 : x22_1 < (y108.length : Int):=of_decide_eq_true aS
 obtain ⟨ad111,e111,hx111_0,hx111_1⟩:=at_T102 (Kd.R_reads' HO_20.out).2.2 x22_1 p111 q111
 cases e111
 replace p111:=eq_true p111
 replace q111:=eq_true q111
 go_wp2_with (first|((with_reducible refine gate_dst (N:=8) rfl ?_);refine box_event rfl (N:=8) rfl (cs:=#[.int .i64 0,.string (⟨#[]⟩ : ByteArray)]) (t:=102) gS ?_;intro gb112 hg w18 hbox hb;have BK112:=aq (hbox);have GE112:=aq ((GN hg : w.heap.size ≤ gb112));have NB107_112:=aq (NL hg BK107);have NB112_107:=aq (NG hg BK107);replace HO_6:=RN HO_6 hb;replace HO_20:=aq (Kd.R_below (Kd.R_elderB (RU HO_20.out) gb112 (Nat.le_of_eq hg.symm)) hb);replace BK107:=KN BK107 hb;replace HB:=aq (below_step bH hb);clear hb hbox hg;have hnb19:=NB112_107.out;have hnc19:=NB107_112.out;have hcz20_0 : w18.cell? ⟨gb112,0,none⟩ = some (.int .i64 0):=(blk_cell BK112.out 0).trans rfl;have hcz20_1 : w18.cell? ⟨gb112,1,none⟩ = some (.string (⟨#[]⟩ : ByteArray)):=(blk_cell BK112.out 1).trans rfl;have hfz20_0:=blk_frozen BK112.out 0;have hfz20_1:=blk_frozen BK112.out 1)|((with_reducible refine gate_builtin (b:=.append) (xs:=#[.tmp 29,.tmp 32]) rfl ?_);at_builtin;refine Kd.R_append Kd.string (w0:=w) w.heap.size rfl (.tmp 29) (.tmp 32) 45 9 (.string ⟨#[]⟩) 16 rfl Tryz.underlying45 info9 rfl (by decide) (by omega) u6 x6_1 ((rd_T102 y108 x22_1).f1) [.string ((rd_T102 y108 x22_1).f1)] (fun _ => True) (fun _ => False) rfl (by first|(go_simp;done)|(go_simp;rfl)) ?aP (fun _ hk => hk.elim) ?aF ?aO ?aB ?aS ?aL ?_;(case aP => exact rfl);(case aB => exact bH);(case aF => exact (fun _ _ => trivial));(case aO => exact (by (with_reducible repeat (first|apply Kd.R_alloc|apply Kd.R_drewN|apply Kd.R_drew));exact Kd.R_mono (RF gb112 1 (RF gb112 0 (Kd.R_types HO_6.out BK112.out (by decide)) (.int .i64 ((rd_T102 y108 x22_1).f0))) (.string ((rd_T102 y108 x22_1).f1))) (fun _ hk => trivial)));(case aS => exact (below_size bH));(case aL => have:=LMc17.out;omega);intro v114 w21 ho hb hg hat;rw [← Ny113.out] at ho;have n0_:=aq (Kd.R_over' (by (with_reducible repeat (first|apply Kd.R_alloc|apply Kd.R_drewN|apply Kd.R_drew));exact (Kd.R_mono (RF gb112 1 (RF gb112 0 (Kd.R_mono HO_20.out (fun k_ hk => (⟨hk,hk.2⟩ : _ ∧ k_ ≠ gb112))) (.int .i64 ((rd_T102 y108 x22_1).f0))) (.string ((rd_T102 y108 x22_1).f1))) (fun _ h_ => h_.1))) (Kd.R_typed (by (with_reducible repeat (first|apply Kd.R_alloc|apply Kd.R_drewN|apply Kd.R_drew));exact (Kd.R_mono (RF gb112 1 (RF gb112 0 (Kd.R_types HO_6.out BK112.out (by decide)) (.int .i64 ((rd_T102 y108 x22_1).f0))) (.string ((rd_T102 y108 x22_1).f1))) (fun _ h_ => h_.1)))) (by decide) hg);have n1_:=aq (blk_grown (g:=gb107) (o:=.cells #[.int .i64 t104,.string t105] 102 (0,0)) (by refine KU ?_;refine blk_far ?_ NB107_112.out _;refine KU ?_;refine blk_far ?_ NB107_112.out _;refine KU ?_;exact BK107.out) hg (Kd.R_ne HO_6.out BK107.out (by decide)));have n2_:=aq (blk_grown (g:=gb112) (o:=.cells #[.int .i64 ((rd_T102 y108 x22_1).f0),.string ((rd_T102 y108 x22_1).f1)] 102 (0,0)) (by refine KU ?_;refine blk_put (cs:=#[.int .i64 ((rd_T102 y108 x22_1).f0),.string (⟨#[]⟩ : ByteArray)]) ?_ 1 _ rfl;refine KU ?_;refine blk_put (cs:=#[.int .i64 0,.string (⟨#[]⟩ : ByteArray)]) ?_ 0 _ rfl;refine KU ?_;exact BK112.out) hg (Kd.R_ne HO_6.out BK112.out (by decide)));have n3_:=aq (hb);have n4_:=aq (ho);clear HO_20;clear BK107;clear BK112;clear HB;clear HO_6;have HO_20:=n0_;have BK107:=n1_;have BK112:=n2_;have HB:=n3_;have HO115:=n4_;clear n0_ n1_ n2_ n3_ n4_;clear ho hb hg hat))
 go_roundg k1
 case measure => have:=HK1.out;omega
 case rel => exact ⟨(y113),(wrap64 (x22_1 + 1)),eS,H',⟨by have:=HK1.out;omega⟩,⟨by (with_reducible repeat (first|apply Kd.R_alloc|apply Kd.R_drewN|apply Kd.R_drew));exact HO115.out⟩,⟨by (with_reducible repeat (first|apply Kd.R_alloc|apply Kd.R_drewN|apply Kd.R_drew));exact Kd.R_mono HO_20.out (fun _ hk => hk.1)⟩,⟨KU BK107.out⟩,⟨bH⟩⟩
end Go.Proofs.YtaokkkolbifdpaaGreatDoor.Q12
end

section
namespace Go.Proofs.YtaokkkolbifdpaaGreatDoor.Hand
open Go.RowKit Go.Shelf Go.Proofs.YtaokkkolbifdpaaGreatDoorW.PrintWords Go.Proofs.YtaokkkolbifdpaaGreatDoorW.PrintLast Go.Proofs.YtaokkkolbifdpaaGreatDoorW.PrintMore
theorem classes_loop (xs : List (S102)) (hl : xs.length ≤ 9) : ∀ (d i k : Nat) (acc : List ByteArray), xs.length - i = d → i ≤ xs.length → d < k → acc.length ≤ i →
  Q12.kind_Classes.l0 k acc xs (xs.length : Int) (i : Int) = some (acc ++ ((((xs.drop i).map ofS).map (·.2)).filter (fun c => !c.isEmpty)).map lb):=by
 intro d
 induction d with
 | zero =>
  intro i k acc hd hi hk _
  obtain ⟨k,rfl⟩ : ∃ j,k = j + 1:=⟨k - 1,by omega⟩
  rw [Q12.kind_Classes.l0,if_neg (by omega),List.drop_of_length_le (by omega)]
  simp
 | succ d ih =>
  intro i k acc hd hi hk ha
  obtain ⟨k,rfl⟩ : ∃ j,k = j + 1:=⟨k - 1,by omega⟩
  have h1 : i < xs.length:=by omega
  have hw : wrap64 ((i : Int) + 1) = ((i + 1 : Nat) : Int):=by rw [wrap_in (by omega) (by omega)];omega
  have hb : xs[i].f1.toList = bl xs[i].f1:=ByteArray.toList_eq _
  rw [Q12.kind_Classes.l0,if_pos (by omega),if_pos (by omega),if_pos (by omega),rdT_get xs i h1,hw,hb,List.drop_eq_getElem_cons h1,List.map_cons,List.map_cons]
  have hof : (ofS xs[i]).2 = bl xs[i].f1:=rfl
  rw [hof]
  by_cases he : bl xs[i].f1 = []
  ·
   rw [if_pos he,ih (i + 1) k acc (by omega) (by omega) (by omega) (by omega),he]
   rfl
  ·
   rw [if_neg he,if_pos (by omega),ih (i + 1) k _ (by omega) (by omega) (by omega) (by rw [List.length_append];simp;omega),List.filter_cons,if_pos (by simpa using he),List.map_cons,lb_bl,List.append_assoc]
   rfl
theorem classes_eq (s : ByteArray) (hs : s.size ≤ 1048576) : Q12.kind_Classes.f 20 s = some ((classesD classL (bl s)).map lb) := by
 unfold Q12.kind_Classes.f classesD kind_Split.f
 rw [if_pos hs,Option.bind_some]
 obtain ⟨h1,h2,h3⟩:=split_short (bl s)
 obtain ⟨ps,t,e,hq⟩ : ∃ ps t e,splitD classL (bl s) = (ps,t,e):=⟨_,_,_,rfl⟩
 rw [hq] at h1 h2 h3 ⊢
 simp only at h1 h2 h3 ⊢
 by_cases h0 : e = 0
 ·
  rw [if_pos h0,if_pos h0,if_pos (by rw [List.length_map];omega),Option.bind_some]
  have h:=classes_loop (ps.map toS ++ [toS t]) (by rw [List.length_append,List.length_map];simp;omega) _ 0 20 [] rfl (by omega) (by rw [List.length_append,List.length_map];simp;omega) (by simp)
  rw [List.drop_zero,show ps.map toS ++ [toS t] = (ps ++ [t]).map toS from by simp,show ((ps ++ [t]).map toS).map ofS = ps ++ [t] from by rw [List.map_map,show (ofS ∘ toS) = id from by funext x;exact ofS_toS x,List.map_id]] at h
  simp only [List.nil_append] at h
  rw [show ps.map toS ++ [(⟨t.1,lb t.2⟩ : S102)] = (ps ++ [t]).map toS from by simp [toS]]
  exact h
 ·
  rw [if_neg h0,if_neg h0]
  rfl
def kind_Classes.f (s : ByteArray) : Option (List ByteArray) := if s.size ≤ 1048576 then some ((classesD classL (bl s)).map lb) else none
theorem kind_Classes.calls (a0 : ByteArray) (r : List ByteArray) (w : World) (hGMaxL : MaxL w) (h : kind_Classes.f a0 = some r) :
  Calls Tryz.prog 78 #[.string a0] w fun e w' => ∃ v0_ : Value,e = .returned (v0_) ∧ Kd.R Kd.string 9 w' w.heap.size (fun _ => True) v0_ r ∧ Below w.heap.size w w':=by
 unfold kind_Classes.f at h
 split at h
 ·
  rename_i hs
  exact Q12.kind_Classes.calls 20 a0 r w hGMaxL ((classes_eq a0 hs).trans h)
 ·
  cases h
end Go.Proofs.YtaokkkolbifdpaaGreatDoor.Hand
end

section
namespace Go.Proofs.YtaokkkolbifdpaaGreatDoor.Hand
open Go.RowKit Go.Proofs.YtaokkkolbifdpaaGreatDoorW
open PrintWords PrintLast PrintMore
def keyN (l : List UInt8) : List UInt8 := l.takeWhile (· != 40)
def keyD (l : List UInt8) : List UInt8 := l.dropWhile (· != 40)
theorem index_tw (l : List UInt8) : Lib.indexByte l 40 = if (40 : UInt8) ∈ l then ((keyN l).length : Int) else -1 := by
 induction l with
 | nil => rfl
 | cons b l ih =>
  unfold Lib.indexByte keyN
  by_cases h : b = 40
  ·
   subst h
   simp
  ·
   have h1 : (b == 40) = false:=beq_eq_false_iff_ne.2 h
   have h2 : (b != 40) = true:=bne_iff_ne.2 h
   have h3 : ¬ (40 : UInt8) = b:=fun e => h e.symm
   rw [h1,List.takeWhile_cons,h2]
   by_cases hm : (40 : UInt8) ∈ l
   ·
    rw [if_pos hm] at ih
    have e : (((keyN l).length : Int) == -1) = false:=beq_eq_false_iff_ne.2 (by omega)
    rw [ih,e,if_pos (List.mem_cons_of_mem _ hm)]
    simp [keyN]
   ·
    rw [if_neg hm] at ih
    have h5 : ¬ (40 : UInt8) ∈ b :: l:=fun hc => by
     rcases List.mem_cons.1 hc with h4|h4
     ·
      exact h3 h4
     ·
      exact hm h4
    rw [ih,if_neg h5]
    rfl
theorem tw_all : ∀ (l : List UInt8), (∀ a ∈ l, (a != 40) = true) → l.takeWhile (· != 40) = l
 | [],_ => rfl
 | a :: l,h => by rw [List.takeWhile_cons,h a (List.mem_cons_self),if_pos rfl,tw_all l fun b hb => h b (List.mem_cons_of_mem _ hb)]
theorem dw_all : ∀ (l : List UInt8), (∀ a ∈ l, (a != 40) = true) → l.dropWhile (· != 40) = []
 | [],_ => rfl
 | a :: l,h => by rw [List.dropWhile_cons,h a (List.mem_cons_self),if_pos rfl,dw_all l fun b hb => h b (List.mem_cons_of_mem _ hb)]
theorem key_none {l : List UInt8} (h : (40 : UInt8) ∉ l) : keyN l = l ∧ keyD l = [] := by
 have h1 : ∀ a ∈ l,(a != 40) = true:=fun a ha => bne_iff_ne.2 fun e => h (e ▸ ha)
 refine ⟨tw_all l h1,?_⟩
 unfold keyD
 exact dw_all l h1
theorem key_take (l : List UInt8) : keyN l = l.take (keyN l).length ∧ keyD l = l.drop (keyN l).length := by
 have h : keyN l ++ keyD l = l:=List.takeWhile_append_dropWhile
 constructor
 ·
  conv => rhs;rw [← h]
  rw [show keyN (keyN l ++ keyD l) = keyN l from by rw [h],List.take_left']
  rfl
 ·
  conv => rhs;rw [← h]
  rw [show keyN (keyN l ++ keyD l) = keyN l from by rw [h],List.drop_left']
  rfl
theorem ext_front (s : ByteArray) (i : Nat) : s.extract 0 i = lb ((bl s).take i) := by
 apply bl_inj
 rw [bl_lb]
 unfold bl
 rw [ByteArray.data_extract]
 simp
theorem ext_back (s : ByteArray) (i : Nat) : s.extract i s.size = lb ((bl s).drop i) := by
 apply bl_inj
 rw [bl_lb]
 exact bl_drop s i
theorem alias_cut (s : ByteArray) (w : World) (hs : s.size ≤ 1048576) :
  Calls Tryz.prog 75 #[.string s] w fun e w' => e = .returned (.tuple #[.string (lb (keyN (bl s))),.string (lb (keyD (bl s)))]) ∧ Below w.heap.size w w':=by
 have HI:=aq (Tryz.strings_IndexByte s 40 w)
 have hix : Lib.indexByte s.data.toList (Int.toNat 40).toUInt8 = if (40 : UInt8) ∈ bl s then ((keyN (bl s)).length : Int) else -1:=index_tw (bl s)
 rw [hix] at HI
 clear hix
 by_cases hm : (40 : UInt8) ∈ bl s
 ·
  rw [if_pos hm] at HI
  obtain ⟨i,hi⟩ : ∃ i,i = (keyN (bl s)).length:=⟨_,rfl⟩
  have hl : i ≤ s.size:=by rw [hi,← bl_len];exact (List.takeWhile_sublist _).length_le
  have e1 : lb (keyN (bl s)) = s.extract 0 i:=by rw [ext_front,hi,← (key_take (bl s)).1]
  have e2 : lb (keyD (bl s)) = s.extract i s.size:=by rw [ext_back,hi,← (key_take (bl s)).2]
  rw [← hi] at HI
  rw [e1,e2]
  have b1 : decide ((i : Int) ≥ 0) = true:=decide_eq_true (by omega)
  have b2 : (0 ≤ (i : Int)) = True:=eq_true (by omega)
  have b3 : ((i : Int) ≤ (s.size : Int)) = True:=eq_true (by omega)
  have b4 : (i ≤ s.size) = True:=eq_true hl
  clear e1 e2 hi hm
  go_enter Tryz.func75,Tryz.ntmps75
  go_wp2_with fail
  refine HI.out.mono ?_
  rintro e w1 ⟨rfl,rfl⟩
  go_wp2_with fail
  go_quiet (fail)
  go_wp2_with fail
  exact bodyPost_ret (results_tmp2 rfl _ _ _) rfl ⟨rfl,by first|exact pw_below_drewN (Below.refl _ _) _|exact Below.refl _ _⟩
 ·
  rw [if_neg hm] at HI
  have e1 : lb (keyN (bl s)) = s:=by rw [(key_none hm).1,lb_bl]
  have e2 : lb (keyD (bl s)) = ⟨#[]⟩:=by rw [(key_none hm).2];rfl
  rw [e1,e2]
  clear e1 e2 hm
  go_enter Tryz.func75,Tryz.ntmps75
  go_wp2_with fail
  refine HI.out.mono ?_
  rintro e w1 ⟨rfl,rfl⟩
  go_wp2_with fail
  exact bodyPost_ret (results_tmp2 rfl _ _ _) rfl ⟨rfl,Below.refl _ _⟩
def okS (x : S23) : Prop := x.f0.size ≤ 1048576 ∧ x.f1.size ≤ 1048576
def okL (l : List S23) : Prop := l.length ≤ 1048576 ∧ ∀ x ∈ l, okS x
theorem okL_short {l : List S23} (h : okL l) : shortP l = true := List.all_eq_true.2 fun x hx => decide_eq_true (by have := (h.2 x hx).2; omega)
def thereB (cl : List (List UInt8 × List UInt8)) (x : List UInt8 × List UInt8) : List UInt8 := x.2 ++ renD classL (keyD x.1) cl
def goodB (cl : List (List UInt8 × List UInt8)) (d : List UInt8) : Bool := (classesD classL d).all fun c => cl.any fun y => y.1 == c
def methodB (cl : List (List UInt8 × List UInt8)) (x : List UInt8 × List UInt8) : Bool := nameL (keyN x.1) && nameL x.2 && !(renD classL (keyD x.1) cl).isEmpty && goodB cl (keyD x.1)
theorem keyD_len (l : List UInt8) : (keyD l).length ≤ l.length := (List.dropWhile_sublist _).length_le
theorem keyN_len (l : List UInt8) : (keyN l).length ≤ l.length := (List.takeWhile_sublist _).length_le
theorem renD_len (d : List UInt8) (l : List (List UInt8 × List UInt8)) : (renD classL d l).length ≤ 64 := by
 unfold renD
 split
 split
 ·
  unfold descD
  split
  ·
   split
   ·
    exact Nat.zero_le _
   ·
    split
    ·
     exact Nat.zero_le _
    ·
     show (descText _ _ _).length ≤ 64
     omega
  ·
   exact Nat.zero_le _
 ·
  exact Nat.zero_le _
structure MpAt (w : World) (g : Nat) (A0 : Option Addr) (c0 : Nat) (l0 : List S23) (A1 : Option Addr) (n1 c1 : Nat) (A2 : Option Addr) (n2 c2 : Nat) : Prop where
 b : w.heap[g]? = some (Obj.cells #[.slice A0 l0.length c0,.slice A1 n1 c1,.slice A2 n2 c2] 34 (0,0))
 r : Kd.C k23 w A0 l0.length l0
 m : MaxL w
theorem MpAt.below {w w' : World} {g : Nat} {A0 : Option Addr} {c0 : Nat} {l0 : List S23} {A1 : Option Addr} {n1 c1 : Nat} {A2 : Option Addr} {n2 c2 : Nat} (h : MpAt w g A0 c0 l0 A1 n1 c1 A2 n2 c2) (hb : Below w.heap.size w w') : MpAt w' g A0 c0 l0 A1 n1 c1 A2 n2 c2 := ⟨blk_below h.b hb, Kd.C_below h.r hb, h.m.below hb⟩
theorem MpAt.cells {w : World} {g : Nat} {A0 : Option Addr} {c0 : Nat} {l0 : List S23} {A1 : Option Addr} {n1 c1 : Nat} {A2 : Option Addr} {n2 c2 : Nat} (h : MpAt w g A0 c0 l0 A1 n1 c1 A2 n2 c2) : w.cell? ⟨g, 0, none⟩ = some (.slice A0 l0.length c0) ∧ w.cell? ⟨g, 1, none⟩ = some (.slice A1 n1 c1) ∧ w.cell? ⟨g, 2, none⟩ = some (.slice A2 n2 c2) := ⟨blk_cell h.b 0, blk_cell h.b 1, blk_cell h.b 2⟩
theorem ren_call (d : ByteArray) (A0 : Option Addr) (c0 : Nat) (l0 : List S23) (hc0 : l0.length ≤ c0) (hl : okL l0) (hd : d.size ≤ 1048576) (W : World) (hC : Kd.C k23 W A0 l0.length l0) (hM : MaxL W) :
  Calls Tryz.prog 76 #[.string d,.slice A0 l0.length c0] W fun e w' => e = .returned (.string (lb (renD classL (bl d) (l0.map pairT)))) ∧ Below W.heap.size W w' :=
 kind_Renamed.calls d A0 c0 l0 _ W hC hc0 hM (by unfold kind_Renamed.f;rw [if_pos ⟨hd,hl.1,okL_short hl⟩])
theorem alias_there (A0 : Option Addr) (c0 : Nat) (l0 : List S23) (A1 : Option Addr) (n1 c1 : Nat) (A2 : Option Addr) (n2 c2 : Nat) (x : S23) (w : World) (hC : Kd.C k23 w A0 l0.length l0) (hc0 : l0.length ≤ c0) (hl : okL l0) (hx : okS x) (hM : MaxL w) :
  Calls Tryz.prog 52 #[.agg #[.slice A0 l0.length c0,.slice A1 n1 c1,.slice A2 n2 c2],.agg #[.string x.f0,.string x.f1]] w fun e w' => e = .returned (.string (lb (thereB (l0.map pairT) (pairT x)))) ∧ Below w.heap.size w w':=by
 have HCut:=aq (fun W => alias_cut x.f0 W hx.1)
 have HRen:=aq (fun W hC hM => ren_call (lb (keyD (bl x.f0))) A0 c0 l0 hc0 hl (by rw [lb_size];have:=keyD_len (bl x.f0);rw [bl_len] at this;have:=hx.1;omega) W hC hM)
 rw [bl_lb] at HRen
 have hq : lb (thereB (l0.map pairT) (pairT x)) = x.f1 ++ lb (renD classL (keyD (bl x.f0)) (l0.map pairT)):=by
  apply bl_inj
  rw [bl_append,bl_lb,bl_lb]
  rfl
 have hz : (lb (renD classL (keyD (bl x.f0)) (l0.map pairT))).size ≤ 64:=by rw [lb_size];exact renD_len _ _
 obtain ⟨r,hr⟩ : ∃ r,r = lb (renD classL (keyD (bl x.f0)) (l0.map pairT)):=⟨_,rfl⟩
 rw [hq]
 rw [← hr] at HRen hz ⊢
 have hx1 : x.f1.size + r.size ≤ 9223372036854775807:=by have:=hx.2;omega
 have z1 : (9223372036854775807 < x.f1.size + r.size) = False:=eq_false (by omega)
 have z2 : decide ((x.f1.size : Int) + (r.size : Int) ≤ 9223372036854775807) = true:=decide_eq_true (by omega)
 have HM0:=aq (MpAt.mk (World.alloc_heap_new w (Obj.cells #[.slice A0 l0.length c0,.slice A1 n1 c1,.slice A2 n2 c2] 34)) (Kd.C_below hC (below_alloc (Below.refl _ _) _)) (hM.below (below_alloc (Below.refl _ _) _)))
 have hX:=World.alloc_heap_new (w.alloc (Obj.cells #[.slice A0 l0.length c0,.slice A1 n1 c1,.slice A2 n2 c2] 34)) (Obj.cells #[.string x.f0,.string x.f1] 23)
 rw [World.size_alloc] at hX
 have HX:=aq hX
 clear hq hr hC hM hl hX hx hz
 go_enter Tryz.func52,Tryz.ntmps52
 go_wp2_with fail
 refine (HCut.out _).mono ?_
 rintro e w1 ⟨rfl,hb⟩
 have HM1:=aq ((HM0.out.below (below_alloc (Below.refl _ _) (Obj.cells #[.string x.f0,.string x.f1] 23))).below hb)
 have HX1:=aq (blk_below HX.out hb)
 have HB1:=aq (below_step (below_alloc (below_alloc (Below.refl w.heap.size w) (Obj.cells #[.slice A0 l0.length c0,.slice A1 n1 c1,.slice A2 n2 c2] 34)) (Obj.cells #[.string x.f0,.string x.f1] 23)) hb)
 clear hb
 go_wp2_with fail
 have S1 : w1.cell? ⟨w.heap.size,0,none⟩ = some (.slice A0 l0.length c0):=HM1.out.cells.1
 have S2 : w1.cell? ⟨w.heap.size + 1,1,none⟩ = some (.string x.f1):=blk_cell HX1.out 1
 go_region_held3 (fun w' => w'.cell? ⟨w.heap.size,0,none⟩ = some (.slice A0 l0.length c0) ∧ w'.cell? ⟨w.heap.size + 1,1,none⟩ = some (.string x.f1)) (first|exact ⟨S1,S2⟩|exact ⟨T1,T2⟩) ((go_at_call 76;refine (HRen.out _ (Kd.C_below HM1.out.r (below_drew1 (Below.refl _ _))) (HM1.out.m.below (below_drew1 (Below.refl _ _)))).mono ?_;rintro e w2 ⟨rfl,hb⟩;have hb12:=below_step (below_drew1 (Below.refl w1.heap.size w1)) hb;have HB2:=aq (below_step HB1.out hb12);have T1:=(HM1.out.below hb12).cells.1;have T2 : w2.cell? ⟨w.heap.size + 1,1,none⟩ = some (.string x.f1):=blk_cell (blk_below HX1.out hb12) 1;clear hb hb12))
 go_wp2_with fail
 exact bodyPost_ret (results_tmp rfl _ _ _) rfl ⟨rfl,HB2.out⟩
theorem right_1 (x : S23) (w : World) (hx : okS x) :
  Calls Tryz.prog 42 #[.agg #[.string x.f0,.string x.f1]] w fun e w' => e = .returned (.bool (classL (bl x.f0) && classL (bl x.f1))) ∧ Below w.heap.size w w':=by
 have HA:=aq (fun W => word_Class.calls x.f0 (classL (bl x.f0)) W (by unfold word_Class.f;rw [if_pos (by have:=hx.1;omega)];rfl))
 have HB:=aq (fun W => word_Class.calls x.f1 (classL (bl x.f1)) W (by unfold word_Class.f;rw [if_pos (by have:=hx.2;omega)];rfl))
 have HX:=World.alloc_heap_new w (Obj.cells #[.string x.f0,.string x.f1] 23)
 have HX1:=aq HX
 clear hx HX
 cases h1 : classL (bl x.f0) with
 | false =>
  rw [h1] at HA
  clear h1 HB
  go_enter Tryz.func42,Tryz.ntmps42
  go_wp2_with fail
  refine (HA.out _).mono ?_
  rintro e w1 ⟨rfl,hd⟩
  have HB1:=aq (below_step (below_alloc (Below.refl w.heap.size w) (Obj.cells #[.string x.f0,.string x.f1] 23)) hd.below)
  clear hd
  go_wp2_with fail
  exact bodyPost_ret (results_tmp rfl _ _ _) rfl ⟨rfl,HB1.out⟩
 | true =>
  rw [h1] at HA
  clear h1
  go_enter Tryz.func42,Tryz.ntmps42
  go_wp2_with fail
  refine (HA.out _).mono ?_
  rintro e w1 ⟨rfl,hd⟩
  have HB1:=aq (below_step (below_alloc (Below.refl w.heap.size w) (Obj.cells #[.string x.f0,.string x.f1] 23)) hd.below)
  have HX2:=blk_below HX1.out hd.below
  have c1 : w1.cell? ⟨w.heap.size,1,none⟩ = some (.string x.f1):=blk_cell HX2 1
  clear hd HX2
  go_wp2_with fail
  refine (HB.out _).mono ?_
  rintro e w2 ⟨rfl,hd⟩
  have HB2:=aq (below_step HB1.out hd.below)
  clear hd
  go_wp2_with fail
  refine bodyPost_ret (results_tmp rfl _ _ _) rfl ⟨?_,HB2.out⟩
  first|rfl|(simp;done)
theorem right_2 (x : S23) (w : World) (hx : okS x) :
  Calls Tryz.prog 47 #[.agg #[.string x.f0,.string x.f1]] w fun e w' => e = .returned (.bool (nameL (bl x.f0) && nameL (bl x.f1))) ∧ Below w.heap.size w w':=by
 have HA:=aq (fun W => word_Name.calls x.f0 (nameL (bl x.f0)) W (by unfold word_Name.f;rw [if_pos (by have:=hx.1;omega)];rfl))
 have HB:=aq (fun W => word_Name.calls x.f1 (nameL (bl x.f1)) W (by unfold word_Name.f;rw [if_pos (by have:=hx.2;omega)];rfl))
 have HX:=World.alloc_heap_new w (Obj.cells #[.string x.f0,.string x.f1] 23)
 have HX1:=aq HX
 clear hx HX
 cases h1 : nameL (bl x.f0) with
 | false =>
  rw [h1] at HA
  clear h1 HB
  go_enter Tryz.func47,Tryz.ntmps47
  go_wp2_with fail
  refine (HA.out _).mono ?_
  rintro e w1 ⟨rfl,hd⟩
  have HB1:=aq (below_step (below_alloc (Below.refl w.heap.size w) (Obj.cells #[.string x.f0,.string x.f1] 23)) hd.below)
  clear hd
  go_wp2_with fail
  exact bodyPost_ret (results_tmp rfl _ _ _) rfl ⟨rfl,HB1.out⟩
 | true =>
  rw [h1] at HA
  clear h1
  go_enter Tryz.func47,Tryz.ntmps47
  go_wp2_with fail
  refine (HA.out _).mono ?_
  rintro e w1 ⟨rfl,hd⟩
  have HB1:=aq (below_step (below_alloc (Below.refl w.heap.size w) (Obj.cells #[.string x.f0,.string x.f1] 23)) hd.below)
  have HX2:=blk_below HX1.out hd.below
  have c1 : w1.cell? ⟨w.heap.size,1,none⟩ = some (.string x.f1):=blk_cell HX2 1
  clear hd HX2
  go_wp2_with fail
  refine (HB.out _).mono ?_
  rintro e w2 ⟨rfl,hd⟩
  have HB2:=aq (below_step HB1.out hd.below)
  clear hd
  go_wp2_with fail
  refine bodyPost_ret (results_tmp rfl _ _ _) rfl ⟨?_,HB2.out⟩
  first|rfl|(simp;done)
def lessAt (xs : List S23) (i : Nat) : Bool := Op.bytesLess (rd_T23 xs (i : Int)).f0.toList (rd_T23 xs ((i + 1 : Nat) : Int)).f0.toList
def risesP (xs : List S23) : Bool := decide (∀ i, i < xs.length - 1 → lessAt xs i = true)
theorem alias_rises (A : Option Addr) (c : Nat) (xs : List S23) (w : World) (hC : Kd.C k23 w A xs.length xs) (hc : xs.length ≤ c) (hl : xs.length ≤ 1048576) :
  Calls Tryz.prog 40 #[.slice A xs.length c] w fun e w' => e = .returned (.bool (risesP xs)) ∧ Below w.heap.size w w':=by
 have HC0:=aq hC
 clear hC
 go_enter Tryz.func40,Tryz.ntmps40
 go_wp2_with fail
 go_loopg [6] xs.length (fun kq v6 wr => ∃ i : Nat,v6 = .int .i64 (i : Int) ∧ i + kq = xs.length ∧ Aside0 (∀ m,m < i - 1 → lessAt xs m = true) ∧ Aside0 (Below w.heap.size w wr))
 case atStart => exact ⟨0,rfl,by omega,⟨fun m hm => absurd hm (Nat.not_lt_zero m)⟩,⟨Below.refl _ _⟩⟩
 case round =>
  obtain ⟨i,rfl,hi,HA,HB⟩:=hrel
  have HC:=aq (Kd.C_below HC0.out HB.out)
  by_cases hlt : i < xs.length
  ·
   cases i with
   | zero =>
    have hd : decide ((0 : Int) < (xs.length : Int)) = true:=decide_eq_true (by omega)
    have hd2 : decide (0 < xs.length) = true:=decide_eq_true (by omega)
    have hd3 : (0 < xs.length) = True:=eq_true (by omega)
    go_wp2_with fail
    go_quiet (fail)
    go_wp2_with fail
    go_roundg (gk - 1)
    case measure => omega
    case rel => exact ⟨1,by simp,by omega,⟨fun m hm => absurd hm (by omega)⟩,by first|exact ⟨pw_below_drewN HB.out _⟩|exact ⟨below_drew1 HB.out⟩|exact HB⟩
   | succ j =>
    obtain ⟨ad,hA,h0,_⟩:=at_T23 HC.out (j : Int) (by omega) (by omega)
    obtain ⟨ad',hA',h1,_⟩:=at_T23 HC.out ((j + 1 : Nat) : Int) (by omega) (by omega)
    subst hA
    obtain rfl:=Option.some.inj hA'
    obtain ⟨s0,hs0⟩ : ∃ s,s = (rd_T23 xs (j : Int)).f0:=⟨_,rfl⟩
    obtain ⟨s1,hs1⟩ : ∃ s,s = (rd_T23 xs ((j + 1 : Nat) : Int)).f0:=⟨_,rfl⟩
    rw [← hs0,Int.toNat_natCast] at h0
    rw [← hs1,Int.toNat_natCast] at h1
    have HL : Aside0 (lessAt xs j = Op.bytesLess s0.toList s1.toList):=⟨by unfold lessAt;rw [hs0,hs1]⟩
    clear hs0 hs1 hA'
    have w1 : IntKind.i64.wrap (((j + 1 : Nat) : Int) - 1) = (j : Int):=by rw [IntWalk.i64_in _ (by omega)];omega
    have w2 : IntKind.i64.wrap (((j : Int) + 1) - 1) = (j : Int):=by rw [IntWalk.i64_in _ (by omega)];omega
    have w3 : wrap64 (((j + 1 : Nat) : Int) - 1) = (j : Int):=by unfold wrap64;omega
    have b1 : (0 ≤ (j : Int)) = True:=eq_true (by omega)
    have b2 : ((j : Int) < (xs.length : Int)) = True:=eq_true (by omega)
    have b3 : (0 ≤ ((j + 1 : Nat) : Int)) = True:=eq_true (by omega)
    have b4 : (((j + 1 : Nat) : Int) < (xs.length : Int)) = True:=eq_true (by omega)
    have b5 : decide ((0 : Int) < ((j + 1 : Nat) : Int)) = true:=decide_eq_true (by omega)
    have b6 : (j < xs.length) = True:=eq_true (by omega)
    have b7 : (j + 1 < xs.length) = True:=eq_true (by omega)
    have hd : decide (((j + 1 : Nat) : Int) < (xs.length : Int)) = true:=decide_eq_true (by omega)
    have hd2 : decide (j + 1 < xs.length) = true:=decide_eq_true (by omega)
    cases hb : Op.bytesLess s0.toList s1.toList with
    | true =>
     have HNX : Aside0 (∀ m,m < j + 1 → lessAt xs m = true):=⟨fun m hm => by
      by_cases e : m = j
      ·
       subst e;rw [HL.out];exact hb
      ·
       exact HA.out m (by omega)⟩
     go_wp2_with fail
     go_quiet (fail)
     go_wp2_with fail
     go_roundg (gk - 1)
     case measure => omega
     case rel => exact ⟨j + 1 + 1,by simp,by omega,⟨fun m hm => HNX.out m (by omega)⟩,by first|exact ⟨pw_below_drewN HB.out _⟩|exact ⟨below_drew1 HB.out⟩|exact HB⟩
    | false =>
     have HNO : Aside0 (risesP xs = false):=⟨decide_eq_false fun h => by
      have:=h j (by omega)
      rw [HL.out,hb] at this
      cases this⟩
     go_wp2_with fail
     go_quiet (fail)
     go_wp2_with fail
     refine bodyPost_ret (results_tmp rfl _ _ _) rfl ⟨?_,by first|exact pw_below_drewN HB.out _|exact below_drew1 HB.out|exact HB.out⟩
     rw [HNO.out]
     rfl
  ·
   have hd : decide ((i : Int) < (xs.length : Int)) = false:=decide_eq_false (by omega)
   have hd2 : decide (i < xs.length) = false:=decide_eq_false (by omega)
   have HF : Aside0 (risesP xs = true):=⟨decide_eq_true fun m hm => HA.out m (by omega)⟩
   go_wp2_with fail
   refine bodyPost_ret (results_tmp rfl _ _ _) rfl ⟨?_,HB.out⟩
   rw [HF.out]
   rfl
theorem ref_rises (A : Option Addr) (c : Nat) (xs : List S23) (w : World) (hC : Kd.C k23 w A xs.length xs) (hc : xs.length ≤ c) (hl : xs.length ≤ 1048576) :
  Calls Tryz.prog 57 #[.slice A xs.length c] w fun e w' => e = .returned (.bool (risesP xs)) ∧ Below w.heap.size w w':=by
 have HC0:=aq hC
 clear hC
 go_enter Tryz.func57,Tryz.ntmps57
 go_wp2_with fail
 go_loopg [3] (xs.length + 1) (fun kq v6 wr => ∃ j : Nat,v6 = .int .i64 ((j + 1 : Nat) : Int) ∧ j + kq = xs.length + 1 ∧ Aside0 (∀ m,m < j → lessAt xs m = true) ∧ Aside0 (Below w.heap.size w wr))
 case atStart => exact ⟨0,rfl,by omega,⟨fun m hm => absurd hm (Nat.not_lt_zero m)⟩,⟨Below.refl _ _⟩⟩
 case round =>
  obtain ⟨j,rfl,hi,HA,HB⟩:=hrel
  have HC:=aq (Kd.C_below HC0.out HB.out)
  by_cases hlt : j + 1 < xs.length
  ·
   skip
   obtain ⟨ad,hA,h0,_⟩:=at_T23 HC.out (j : Int) (by omega) (by omega)
   obtain ⟨ad',hA',h1,_⟩:=at_T23 HC.out ((j + 1 : Nat) : Int) (by omega) (by omega)
   subst hA
   obtain rfl:=Option.some.inj hA'
   obtain ⟨s0,hs0⟩ : ∃ s,s = (rd_T23 xs (j : Int)).f0:=⟨_,rfl⟩
   obtain ⟨s1,hs1⟩ : ∃ s,s = (rd_T23 xs ((j + 1 : Nat) : Int)).f0:=⟨_,rfl⟩
   rw [← hs0,Int.toNat_natCast] at h0
   rw [← hs1,Int.toNat_natCast] at h1
   have HL : Aside0 (lessAt xs j = Op.bytesLess s0.toList s1.toList):=⟨by unfold lessAt;rw [hs0,hs1]⟩
   clear hs0 hs1 hA'
   have w1 : IntKind.i64.wrap (((j + 1 : Nat) : Int) - 1) = (j : Int):=by rw [IntWalk.i64_in _ (by omega)];omega
   have w2 : IntKind.i64.wrap (((j : Int) + 1) - 1) = (j : Int):=by rw [IntWalk.i64_in _ (by omega)];omega
   have w3 : wrap64 (((j + 1 : Nat) : Int) - 1) = (j : Int):=by unfold wrap64;omega
   have b1 : (0 ≤ (j : Int)) = True:=eq_true (by omega)
   have b2 : ((j : Int) < (xs.length : Int)) = True:=eq_true (by omega)
   have b3 : (0 ≤ ((j + 1 : Nat) : Int)) = True:=eq_true (by omega)
   have b4 : (((j + 1 : Nat) : Int) < (xs.length : Int)) = True:=eq_true (by omega)
   have b5 : decide ((0 : Int) < ((j + 1 : Nat) : Int)) = true:=decide_eq_true (by omega)
   have b6 : (j < xs.length) = True:=eq_true (by omega)
   have b7 : (j + 1 < xs.length) = True:=eq_true (by omega)
   have hd : decide (((j + 1 : Nat) : Int) < (xs.length : Int)) = true:=decide_eq_true (by omega)
   have hd2 : decide (j + 1 < xs.length) = true:=decide_eq_true (by omega)
   cases hb : Op.bytesLess s0.toList s1.toList with
   | true =>
    have HNX : Aside0 (∀ m,m < j + 1 → lessAt xs m = true):=⟨fun m hm => by
     by_cases e : m = j
     ·
      subst e;rw [HL.out];exact hb
     ·
      exact HA.out m (by omega)⟩
    go_wp2_with fail
    go_quiet (fail)
    go_wp2_with fail
    go_roundg (gk - 1)
    case measure => omega
    case rel => exact ⟨j + 1,by simp,by omega,⟨fun m hm => HNX.out m (by omega)⟩,by first|exact ⟨pw_below_drewN HB.out _⟩|exact ⟨below_drew1 HB.out⟩|exact HB⟩
   | false =>
    have HNO : Aside0 (risesP xs = false):=⟨decide_eq_false fun h => by
     have:=h j (by omega)
     rw [HL.out,hb] at this
     cases this⟩
    go_wp2_with fail
    go_quiet (fail)
    go_wp2_with fail
    refine bodyPost_ret (results_tmp rfl _ _ _) rfl ⟨?_,by first|exact pw_below_drewN HB.out _|exact below_drew1 HB.out|exact HB.out⟩
    rw [HNO.out]
    rfl
  ·
   have hd : decide (((j + 1 : Nat) : Int) < (xs.length : Int)) = false:=decide_eq_false (by omega)
   have hd2 : decide (j + 1 < xs.length) = false:=decide_eq_false (by omega)
   have HF : Aside0 (risesP xs = true):=⟨decide_eq_true fun m hm => HA.out m (by omega)⟩
   go_wp2_with fail
   refine bodyPost_ret (results_tmp rfl _ _ _) rfl ⟨?_,HB.out⟩
   rw [HF.out]
   rfl
theorem method_11 (x : S23) (g : Nat) (c : ByteArray) (w : World) (hc : w.cell? ⟨g, 0, none⟩ = some (.string c)) :
  Calls Tryz.prog 80 #[.agg #[.string x.f0,.string x.f1],.pointer (some ⟨g,0,none⟩)] w fun e w' => e = .returned (.bool (x.f0.toList == c.toList)) ∧ Below w.heap.size w w':=by
 have hg : g < w.heap.size:=World.block_lt_of_cell? w ⟨g,0,none⟩ hc
 go_enter Tryz.func80,Tryz.ntmps80
 go_wp2
 go_ret
 exact ⟨rfl,by first|exact below_alloc (Below.refl _ _) _|exact Below.refl _ _⟩
theorem method_1 (A0 : Option Addr) (c0 : Nat) (l0 : List S23) (A1 : Option Addr) (n1 c1 : Nat) (A2 : Option Addr) (n2 c2 : Nat) (c : ByteArray) (g : Nat) (w : World) (hM : MpAt w g A0 c0 l0 A1 n1 c1 A2 n2 c2) (hc0 : l0.length ≤ c0) :
  Calls Tryz.prog 79 #[.string c,.pointer (some ⟨g,0,none⟩)] w fun e w' => e = .returned (.bool (!l0.any fun x => x.f0.toList == c.toList)) ∧ Below w.heap.size w w':=by
 have hcell:=blk_cell (World.alloc_heap_new w (Obj.cells #[.string c] 9)) 0
 have HI:=aq (contains_pair 80 (by intro args w;rfl) (.pointer (some ⟨w.heap.size,0,none⟩)) (fun x => x.f0.toList == c.toList) A0 c0 l0 (w.alloc (Obj.cells #[.string c] 9)) (Kd.C_below hM.r (below_alloc (Below.refl _ _) _)) hc0 (fun x W _ hW => method_11 x w.heap.size c W ((hW.cell (by simp)).trans hcell)))
 have c0_:=hM.cells.1
 have hg:=blk_lt hM.b
 clear hM hcell
 go_enter Tryz.func79,Tryz.ntmps79
 go_wp2_with fail
 refine HI.out.mono ?_
 rintro e w1 ⟨rfl,hb⟩
 have HB1:=aq (below_step (below_alloc (Below.refl w.heap.size w) (Obj.cells #[.string c] 9)) hb)
 clear hb
 go_wp2_with fail
 exact bodyPost_ret (results_tmp rfl _ _ _) rfl ⟨rfl,HB1.out⟩
theorem good_any (l0 : List S23) (d : List UInt8) : (!((classesD classL d).map lb).any fun c => !l0.any fun x => x.f0.toList == c.toList) = goodB (l0.map pairT) d := by
 unfold goodB
 rw [List.any_map,List.all_eq_not_any_not]
 congr 2
 funext c
 simp only [Function.comp]
 congr 1
 rw [List.any_map]
 congr 1
 funext x
 simp only [Function.comp,pairT]
 rw [ByteArray.toList_eq,ByteArray.toList_eq]
 rfl
theorem alias_method (A0 : Option Addr) (c0 : Nat) (l0 : List S23) (A1 : Option Addr) (n1 c1 : Nat) (A2 : Option Addr) (n2 c2 : Nat) (x : S23) (w : World) (hC : Kd.C k23 w A0 l0.length l0) (hc0 : l0.length ≤ c0) (hl : okL l0) (hx : okS x) (hM : MaxL w) :
  Calls Tryz.prog 50 #[.agg #[.slice A0 l0.length c0,.slice A1 n1 c1,.slice A2 n2 c2],.agg #[.string x.f0,.string x.f1]] w fun e w' => e = .returned (.bool (methodB (l0.map pairT) (pairT x))) ∧ Below w.heap.size w w':=by
 have HCut:=aq (fun W => alias_cut x.f0 W hx.1)
 have hkd : (lb (keyD (bl x.f0))).size ≤ 1048576:=by rw [lb_size];have:=keyD_len (bl x.f0);rw [bl_len] at this;have:=hx.1;omega
 have hkn : (lb (keyN (bl x.f0))).size ≤ 1048576:=by rw [lb_size];have:=keyN_len (bl x.f0);rw [bl_len] at this;have:=hx.1;omega
 have HRen:=aq (fun W hC hM => ren_call (lb (keyD (bl x.f0))) A0 c0 l0 hc0 hl hkd W hC hM)
 have HN1:=aq (fun W => word_Name.calls (lb (keyN (bl x.f0))) (nameL (keyN (bl x.f0))) W (by unfold word_Name.f;rw [if_pos (by omega)];rfl))
 have HN2:=aq (fun W => word_Name.calls x.f1 (nameL (bl x.f1)) W (by unfold word_Name.f;rw [if_pos (by have:=hx.2;omega)];rfl))
 have HCl:=aq (fun W hM => kind_Classes.calls (lb (keyD (bl x.f0))) ((classesD classL (keyD (bl x.f0))).map lb) W hM (by unfold kind_Classes.f;rw [if_pos hkd,bl_lb]))
 rw [bl_lb] at HRen
 have hq : methodB (l0.map pairT) (pairT x) = (nameL (keyN (bl x.f0)) && nameL (bl x.f1) && !(renD classL (keyD (bl x.f0)) (l0.map pairT)).isEmpty && goodB (l0.map pairT) (keyD (bl x.f0))):=rfl
 rw [hq,← good_any]
 have HM0:=aq (MpAt.mk (World.alloc_heap_new w (Obj.cells #[.slice A0 l0.length c0,.slice A1 n1 c1,.slice A2 n2 c2] 34)) (Kd.C_below hC (below_alloc (Below.refl _ _) _)) (hM.below (below_alloc (Below.refl _ _) _)))
 have hX:=World.alloc_heap_new (w.alloc (Obj.cells #[.slice A0 l0.length c0,.slice A1 n1 c1,.slice A2 n2 c2] 34)) (Obj.cells #[.string x.f0,.string x.f1] 23)
 rw [World.size_alloc] at hX
 have HX:=aq hX
 obtain ⟨kn,hkn'⟩ : ∃ s,s = lb (keyN (bl x.f0)):=⟨_,rfl⟩
 obtain ⟨kd,hkd'⟩ : ∃ s,s = lb (keyD (bl x.f0)):=⟨_,rfl⟩
 obtain ⟨rn,hrn⟩ : ∃ s,s = renD classL (keyD (bl x.f0)) (l0.map pairT):=⟨_,rfl⟩
 obtain ⟨cs,hcs⟩ : ∃ s,s = (classesD classL (keyD (bl x.f0))).map lb:=⟨_,rfl⟩
 obtain ⟨b1,hb1⟩ : ∃ s,s = nameL (keyN (bl x.f0)):=⟨_,rfl⟩
 obtain ⟨b2,hb2⟩ : ∃ s,s = nameL (bl x.f1):=⟨_,rfl⟩
 rw [← hkn'] at HCut HN1
 rw [← hkd'] at HCut HRen HCl
 rw [← hrn] at HRen ⊢
 rw [← hcs] at HCl ⊢
 rw [← hb1] at HN1 ⊢
 rw [← hb2] at HN2 ⊢
 clear hq hC hM hl hX hx hkd hkn hkn' hkd' hrn hcs hb1 hb2
 go_enter Tryz.func50,Tryz.ntmps50
 go_wp2_with fail
 refine (HCut.out _).mono ?_
 rintro e w1 ⟨rfl,hb⟩
 have HM1:=aq ((HM0.out.below (below_alloc (Below.refl _ _) (Obj.cells #[.string x.f0,.string x.f1] 23))).below hb)
 have HX1:=aq (blk_below HX.out hb)
 have HB1:=aq (below_step (below_alloc (below_alloc (Below.refl w.heap.size w) (Obj.cells #[.slice A0 l0.length c0,.slice A1 n1 c1,.slice A2 n2 c2] 34)) (Obj.cells #[.string x.f0,.string x.f1] 23)) hb)
 clear hb
 cases b1 with
 | false =>
  go_wp2_with fail
  refine (HN1.out _).mono ?_
  rintro e w2 ⟨rfl,hd⟩
  have HB2:=aq (below_step HB1.out hd.below)
  clear hd
  go_wp2_with fail
  exact bodyPost_ret (results_tmp rfl _ _ _) rfl ⟨rfl,HB2.out⟩
 | true =>
  go_wp2_with fail
  refine (HN1.out _).mono ?_
  rintro e w2 ⟨rfl,hd⟩
  have HM2:=aq (HM1.out.below hd.below)
  have HX2:=aq (blk_below HX1.out hd.below)
  have HB2:=aq (below_step HB1.out hd.below)
  have q1 : w2.cell? ⟨w.heap.size + 1,1,none⟩ = some (.string x.f1):=blk_cell HX2.out 1
  clear hd
  cases b2 with
  | false =>
   go_wp2_with fail
   refine (HN2.out _).mono ?_
   rintro e w3 ⟨rfl,hd⟩
   have HB3:=aq (below_step HB2.out hd.below)
   clear hd
   go_wp2_with fail
   exact bodyPost_ret (results_tmp rfl _ _ _) rfl ⟨rfl,HB3.out⟩
  | true =>
   go_wp2_with fail
   refine (HN2.out _).mono ?_
   rintro e w3 ⟨rfl,hd⟩
   have HM3:=aq (HM2.out.below hd.below)
   have HB3:=aq (below_step HB2.out hd.below)
   obtain ⟨m0,m1,m2⟩:=HM3.out.cells
   clear hd q1
   by_cases hr : rn = []
   ·
    subst hr
    have n1 : (((lb []).toList == ([] : List UInt8)) : Bool) = true:=by rw [ByteArray.toList_eq];rfl
    have n2 : (lb []).toList = []:=by rw [ByteArray.toList_eq];rfl
    have n3 : (lb []).toList.isEmpty = true:=by rw [n2];rfl
    go_wp2_with fail
    refine (HRen.out _ HM3.out.r HM3.out.m).mono ?_
    rintro e w4 ⟨rfl,hb⟩
    have HB4:=aq (below_step HB3.out hb)
    clear hb
    go_wp2_with fail
    exact bodyPost_ret (results_tmp rfl _ _ _) rfl ⟨rfl,HB4.out⟩
   ·
    have hne : (lb rn).toList ≠ []:=by rw [ByteArray.toList_eq];exact hr
    have n1 : (((lb rn).toList == ([] : List UInt8)) : Bool) = false:=beq_eq_false_iff_ne.2 hne
    have n3 : (lb rn).toList.isEmpty = false:=by rw [List.isEmpty_eq_false_iff];exact hne
    have HEm : Aside0 (rn.isEmpty = false):=⟨by rw [List.isEmpty_eq_false_iff];exact hr⟩
    obtain ⟨rs,hrs⟩ : ∃ s,s = lb rn:=⟨_,rfl⟩
    rw [← hrs] at n1 n3 hne HRen
    clear hrs hr
    go_wp2_with fail
    refine (HRen.out _ HM3.out.r HM3.out.m).mono ?_
    rintro e w4 ⟨rfl,hb⟩
    have HM4:=aq (HM3.out.below hb)
    have HB4:=aq (below_step HB3.out hb)
    clear hb m0 m1 m2
    go_wp2_with fail
    clear n1 n3 hne
    refine (HCl.out _ HM4.out.m).mono ?_
    rintro e w5 ⟨v5,rfl,hR,hb⟩
    obtain ⟨A5,c5,rfl,hc5,hC5⟩:=Kd.R_reads hR
    have HM5:=aq (HM4.out.below hb)
    have HB5:=aq (below_step HB4.out hb)
    have HI:=aq (contains_str 79 (by intro args w;rfl) (.pointer (some ⟨w.heap.size,0,none⟩)) (fun c => !l0.any fun x => x.f0.toList == c.toList) A5 c5 cs w5 hC5 hc5 (fun c W _ hW => method_1 A0 c0 l0 A1 n1 c1 A2 n2 c2 c w.heap.size W (HM5.out.below hW) hc0))
    clear hb hR hC5
    go_wp2_with fail
    refine HI.out.mono ?_
    rintro e w6 ⟨rfl,hb⟩
    have HB6:=aq (below_step HB5.out hb)
    clear hb
    go_wp2_with fail
    refine bodyPost_ret (results_tmp rfl _ _ _) rfl ⟨?_,HB6.out⟩
    rw [HEm.out]
    rfl
theorem right_3 (A0 : Option Addr) (c0 : Nat) (l0 : List S23) (A1 : Option Addr) (n1 c1 : Nat) (A2 : Option Addr) (n2 c2 : Nat) (x : S23) (g : Nat) (w : World) (hM : MpAt w g A0 c0 l0 A1 n1 c1 A2 n2 c2) (hc0 : l0.length ≤ c0) (hl : okL l0) (hx : okS x) :
  Calls Tryz.prog 49 #[.agg #[.string x.f0,.string x.f1],.pointer (some ⟨g,0,none⟩)] w fun e w' => e = .returned (.bool (methodB (l0.map pairT) (pairT x))) ∧ Below w.heap.size w w':=by
 have HF:=aq (alias_method A0 c0 l0 A1 n1 c1 A2 n2 c2 x (w.alloc (Obj.cells #[.string x.f0,.string x.f1] 23)) (Kd.C_below hM.r (below_alloc (Below.refl _ _) _)) hc0 hl hx (hM.m.below (below_alloc (Below.refl _ _) _)))
 obtain ⟨m0,m1,m2⟩:=hM.cells
 have hg:=blk_lt hM.b
 clear hM hl hx
 go_enter Tryz.func49,Tryz.ntmps49
 go_wp2_with fail
 refine HF.out.mono ?_
 rintro e w1 ⟨rfl,hb⟩
 have HB1:=aq (below_step (below_alloc (Below.refl w.heap.size w) (Obj.cells #[.string x.f0,.string x.f1] 23)) hb)
 clear hb
 go_wp2_with fail
 exact bodyPost_ret (results_tmp rfl _ _ _) rfl ⟨rfl,HB1.out⟩
theorem right_4 (A0 : Option Addr) (c0 : Nat) (l0 : List S23) (A1 : Option Addr) (n1 c1 : Nat) (A2 : Option Addr) (n2 c2 : Nat) (x : S23) (g : Nat) (w : World) (hM : MpAt w g A0 c0 l0 A1 n1 c1 A2 n2 c2) (hc0 : l0.length ≤ c0) (hl : okL l0) (hx : okS x) :
  Calls Tryz.prog 51 #[.agg #[.string x.f0,.string x.f1],.pointer (some ⟨g,0,none⟩)] w fun e w' => e = .returned (.string (lb (thereB (l0.map pairT) (pairT x)))) ∧ Below w.heap.size w w':=by
 have HF:=aq (alias_there A0 c0 l0 A1 n1 c1 A2 n2 c2 x (w.alloc (Obj.cells #[.string x.f0,.string x.f1] 23)) (Kd.C_below hM.r (below_alloc (Below.refl _ _) _)) hc0 hl hx (hM.m.below (below_alloc (Below.refl _ _) _)))
 obtain ⟨m0,m1,m2⟩:=hM.cells
 have hg:=blk_lt hM.b
 clear hM hl hx
 go_enter Tryz.func51,Tryz.ntmps51
 go_wp2_with fail
 refine HF.out.mono ?_
 rintro e w1 ⟨rfl,hb⟩
 have HB1:=aq (below_step (below_alloc (Below.refl w.heap.size w) (Obj.cells #[.string x.f0,.string x.f1] 23)) hb)
 clear hb
 go_wp2_with fail
 exact bodyPost_ret (results_tmp rfl _ _ _) rfl ⟨rfl,HB1.out⟩
theorem alias_becomes (x : S23) (w : World) : Calls Tryz.prog 46 #[.agg #[.string x.f0, .string x.f1]] w fun e w' => e = .returned (.string x.f1) ∧ Below w.heap.size w w' := by
 go_enter Tryz.func46,Tryz.ntmps46
 go_wp2
 go_ret
 exact ⟨rfl,by first|exact below_alloc (Below.refl _ _) _|exact Below.refl _ _⟩
structure Mp3 (w : World) (g : Nat) (A0 : Option Addr) (c0 : Nat) (l0 : List S23) (A1 : Option Addr) (c1 : Nat) (l1 : List S23) (A2 : Option Addr) (c2 : Nat) (l2 : List S23) : Prop where
 b : w.heap[g]? = some (Obj.cells #[.slice A0 l0.length c0,.slice A1 l1.length c1,.slice A2 l2.length c2] 34 (0,0))
 r0 : Kd.C k23 w A0 l0.length l0
 r1 : Kd.C k23 w A1 l1.length l1
 r2 : Kd.C k23 w A2 l2.length l2
 m : MaxL w
theorem Mp3.below {w w' : World} {g : Nat} {A0 : Option Addr} {c0 : Nat} {l0 : List S23} {A1 : Option Addr} {c1 : Nat} {l1 : List S23} {A2 : Option Addr} {c2 : Nat} {l2 : List S23} (h : Mp3 w g A0 c0 l0 A1 c1 l1 A2 c2 l2) (hb : Below w.heap.size w w') : Mp3 w' g A0 c0 l0 A1 c1 l1 A2 c2 l2 := ⟨blk_below h.b hb, Kd.C_below h.r0 hb, Kd.C_below h.r1 hb, Kd.C_below h.r2 hb, h.m.below hb⟩
theorem Mp3.cells {w : World} {g : Nat} {A0 : Option Addr} {c0 : Nat} {l0 : List S23} {A1 : Option Addr} {c1 : Nat} {l1 : List S23} {A2 : Option Addr} {c2 : Nat} {l2 : List S23} (h : Mp3 w g A0 c0 l0 A1 c1 l1 A2 c2 l2) : w.cell? ⟨g, 0, none⟩ = some (.slice A0 l0.length c0) ∧ w.cell? ⟨g, 1, none⟩ = some (.slice A1 l1.length c1) ∧ w.cell? ⟨g, 2, none⟩ = some (.slice A2 l2.length c2) := ⟨blk_cell h.b 0, blk_cell h.b 1, blk_cell h.b 2⟩
theorem Mp3.at_ {w : World} {g : Nat} {A0 : Option Addr} {c0 : Nat} {l0 : List S23} {A1 : Option Addr} {c1 : Nat} {l1 : List S23} {A2 : Option Addr} {c2 : Nat} {l2 : List S23} (h : Mp3 w g A0 c0 l0 A1 c1 l1 A2 c2 l2) : MpAt w g A0 c0 l0 A1 l1.length c1 A2 l2.length c2 := ⟨h.b, h.r0, h.m⟩
def unlikeB (ls : List (List UInt8)) : Bool := decide ((risingB ls).length = ls.length)
def rightS (l0 l1 l2 : List S23) : Bool := (risesP l0) && (risesP l1) && (risesP l2) && (l0.all (fun x => classL (bl x.f0) && classL (bl x.f1))) && (unlikeB (l0.map fun x => bl x.f1)) && (l1.all (fun x => nameL (bl x.f0) && nameL (bl x.f1))) && (unlikeB (l1.map fun x => bl x.f1)) && (l2.all (fun x => methodB (l0.map pairT) (pairT x))) && (unlikeB (l2.map fun x => thereB (l0.map pairT) (pairT x)))
theorem alias_right (A0 : Option Addr) (c0 : Nat) (l0 : List S23) (A1 : Option Addr) (c1 : Nat) (l1 : List S23) (A2 : Option Addr) (c2 : Nat) (l2 : List S23) (w : World) (hC0 : Kd.C k23 w A0 l0.length l0) (hc0 : l0.length ≤ c0) (hC1 : Kd.C k23 w A1 l1.length l1) (hc1 : l1.length ≤ c1) (hC2 : Kd.C k23 w A2 l2.length l2) (hc2 : l2.length ≤ c2) (ok0 : okL l0) (ok1 : okL l1) (ok2 : okL l2) (hM : MaxL w) :
  Calls Tryz.prog 25 #[.agg #[.slice A0 l0.length c0,.slice A1 l1.length c1,.slice A2 l2.length c2]] w fun e w' => e = .returned (.bool (rightS l0 l1 l2)) ∧ Below w.heap.size w w':=by
 have HR0:=aq (fun W hC => alias_rises A0 c0 l0 W hC hc0 ok0.1)
 have HR1:=aq (fun W hC => alias_rises A1 c1 l1 W hC hc1 ok1.1)
 have HR2:=aq (fun W hC => alias_rises A2 c2 l2 W hC hc2 ok2.1)
 have HA0:=aq (fun W hC => all_no 42 (by intro args w;rfl) (.bool false) (fun x => classL (bl x.f0) && classL (bl x.f1)) A0 c0 l0 W hC hc0 (fun x V hx _ => right_1 x V (ok0.2 x hx)))
 have HA1:=aq (fun W hC => all_no 47 (by intro args w;rfl) (.bool false) (fun x => nameL (bl x.f0) && nameL (bl x.f1)) A1 c1 l1 W hC hc1 (fun x V hx _ => right_2 x V (ok1.2 x hx)))
 have HA2:=aq (fun W (hQ : Mp3 W w.heap.size A0 c0 l0 A1 c1 l1 A2 c2 l2) => all_one 49 (by intro args w;rfl) (.pointer (some ⟨w.heap.size,0,none⟩)) (fun x => methodB (l0.map pairT) (pairT x)) A2 c2 l2 W hQ.r2 hc2 (fun x V hx hV => right_3 A0 c0 l0 A1 l1.length c1 A2 l2.length c2 x w.heap.size V (hQ.below hV).at_ hc0 ok0 (ok2.2 x hx)))
 have HE0:=aq (fun W hC => each_no 46 (by intro args w;rfl) (.bool false) (fun x => x.f1) A0 c0 l0 W hC hc0 ok0.1 (fun x V _ _ => alias_becomes x V))
 have HE1:=aq (fun W hC => each_no 46 (by intro args w;rfl) (.bool false) (fun x => x.f1) A1 c1 l1 W hC hc1 ok1.1 (fun x V _ _ => alias_becomes x V))
 have HE2:=aq (fun W (hQ : Mp3 W w.heap.size A0 c0 l0 A1 c1 l1 A2 c2 l2) => each_one 51 (by intro args w;rfl) (.pointer (some ⟨w.heap.size,0,none⟩)) (fun x => lb (thereB (l0.map pairT) (pairT x))) A2 c2 l2 W hQ.r2 hc2 ok2.1 (fun x V hx hV => right_4 A0 c0 l0 A1 l1.length c1 A2 l2.length c2 x w.heap.size V (hQ.below hV).at_ hc0 ok0 (ok2.2 x hx)))
 have hun : ∀ (f : S23 → ByteArray) (l : List S23) (hl : l.length ≤ 1048576) (E : Option Addr) (d : Nat) (W : World) (hE : Kd.C Kd.string W E (l.map f).length (l.map f)) (hd : (l.map f).length ≤ d),Calls Tryz.prog 44 #[.slice E l.length d] W fun e w' => e = .returned (.bool (unlikeB (l.map fun x => bl (f x)))) ∧ Below W.heap.size W w':=by
  intro f l hl E d W hE hd
  have h:=unlike_str E d (l.map f) W hE hd (by rw [List.length_map];exact hl)
  rw [List.map_map] at h
  simp only [List.length_map] at h
  unfold unlikeB
  rw [List.length_map]
  exact h
 have HU0:=aq (hun (fun x => x.f1) l0 ok0.1)
 have HU1:=aq (hun (fun x => x.f1) l1 ok1.1)
 have HU2:=aq (hun (fun x => lb (thereB (l0.map pairT) (pairT x))) l2 ok2.1)
 simp only [bl_lb] at HU2
 have HM1:=aq (Mp3.mk (World.alloc_heap_new w (Obj.cells #[.slice A0 l0.length c0,.slice A1 l1.length c1,.slice A2 l2.length c2] 34)) (Kd.C_below hC0 (below_alloc (Below.refl _ _) _)) (Kd.C_below hC1 (below_alloc (Below.refl _ _) _)) (Kd.C_below hC2 (below_alloc (Below.refl _ _) _)) (hM.below (below_alloc (Below.refl _ _) _)))
 have HB1:=aq (below_alloc (Below.refl w.heap.size w) (Obj.cells #[.slice A0 l0.length c0,.slice A1 l1.length c1,.slice A2 l2.length c2] 34))
 unfold rightS
 obtain ⟨b1,hb1⟩ : ∃ b : Bool,b = (risesP l0):=⟨_,rfl⟩
 rw [← hb1] at HR0 ⊢
 obtain ⟨b2,hb2⟩ : ∃ b : Bool,b = (risesP l1):=⟨_,rfl⟩
 rw [← hb2] at HR1 ⊢
 obtain ⟨b3,hb3⟩ : ∃ b : Bool,b = (risesP l2):=⟨_,rfl⟩
 rw [← hb3] at HR2 ⊢
 obtain ⟨b4,hb4⟩ : ∃ b : Bool,b = (l0.all (fun x => classL (bl x.f0) && classL (bl x.f1))):=⟨_,rfl⟩
 rw [← hb4] at HA0 ⊢
 obtain ⟨b5,hb5⟩ : ∃ b : Bool,b = (unlikeB (l0.map fun x => bl x.f1)):=⟨_,rfl⟩
 rw [← hb5] at HU0 ⊢
 obtain ⟨b6,hb6⟩ : ∃ b : Bool,b = (l1.all (fun x => nameL (bl x.f0) && nameL (bl x.f1))):=⟨_,rfl⟩
 rw [← hb6] at HA1 ⊢
 obtain ⟨b7,hb7⟩ : ∃ b : Bool,b = (unlikeB (l1.map fun x => bl x.f1)):=⟨_,rfl⟩
 rw [← hb7] at HU1 ⊢
 obtain ⟨b8,hb8⟩ : ∃ b : Bool,b = (l2.all (fun x => methodB (l0.map pairT) (pairT x))):=⟨_,rfl⟩
 rw [← hb8] at HA2 ⊢
 obtain ⟨b9,hb9⟩ : ∃ b : Bool,b = (unlikeB (l2.map fun x => thereB (l0.map pairT) (pairT x))):=⟨_,rfl⟩
 rw [← hb9] at HU2 ⊢
 clear hb1 hb2 hb3 hb4 hb5 hb6 hb7 hb8 hb9 hun hC0 hC1 hC2 hM ok0 ok1 ok2
 go_enter Tryz.func25,Tryz.ntmps25
 obtain ⟨m0,m1,m2⟩:=HM1.out.cells
 cases b1 with
 | false =>
  go_wp2_with fail
  refine (HR0.out _ HM1.out.r0).mono ?_
  rintro e w2 ⟨rfl,hb⟩
  have HM2:=aq (HM1.out.below hb)
  have HB2:=aq (below_step HB1.out hb)
  clear hb m0 m1 m2
  obtain ⟨m0,m1,m2⟩:=HM2.out.cells
  go_wp2_with fail
  exact bodyPost_ret (results_tmp rfl _ _ _) rfl ⟨rfl,HB2.out⟩
 | true =>
  go_wp2_with fail
  refine (HR0.out _ HM1.out.r0).mono ?_
  rintro e w2 ⟨rfl,hb⟩
  have HM2:=aq (HM1.out.below hb)
  have HB2:=aq (below_step HB1.out hb)
  clear hb m0 m1 m2
  obtain ⟨m0,m1,m2⟩:=HM2.out.cells
  cases b2 with
  | false =>
   go_wp2_with fail
   refine (HR1.out _ HM2.out.r1).mono ?_
   rintro e w3 ⟨rfl,hb⟩
   have HM3:=aq (HM2.out.below hb)
   have HB3:=aq (below_step HB2.out hb)
   clear hb m0 m1 m2
   obtain ⟨m0,m1,m2⟩:=HM3.out.cells
   go_wp2_with fail
   exact bodyPost_ret (results_tmp rfl _ _ _) rfl ⟨rfl,HB3.out⟩
  | true =>
   go_wp2_with fail
   refine (HR1.out _ HM2.out.r1).mono ?_
   rintro e w3 ⟨rfl,hb⟩
   have HM3:=aq (HM2.out.below hb)
   have HB3:=aq (below_step HB2.out hb)
   clear hb m0 m1 m2
   obtain ⟨m0,m1,m2⟩:=HM3.out.cells
   cases b3 with
   | false =>
    go_wp2_with fail
    refine (HR2.out _ HM3.out.r2).mono ?_
    rintro e w4 ⟨rfl,hb⟩
    have HM4:=aq (HM3.out.below hb)
    have HB4:=aq (below_step HB3.out hb)
    clear hb m0 m1 m2
    obtain ⟨m0,m1,m2⟩:=HM4.out.cells
    go_wp2_with fail
    exact bodyPost_ret (results_tmp rfl _ _ _) rfl ⟨rfl,HB4.out⟩
   | true =>
    go_wp2_with fail
    refine (HR2.out _ HM3.out.r2).mono ?_
    rintro e w4 ⟨rfl,hb⟩
    have HM4:=aq (HM3.out.below hb)
    have HB4:=aq (below_step HB3.out hb)
    clear hb m0 m1 m2
    obtain ⟨m0,m1,m2⟩:=HM4.out.cells
    cases b4 with
    | false =>
     go_wp2_with fail
     refine (HA0.out _ HM4.out.r0).mono ?_
     rintro e w5 ⟨rfl,hb⟩
     have HM5:=aq (HM4.out.below hb)
     have HB5:=aq (below_step HB4.out hb)
     clear hb m0 m1 m2
     obtain ⟨m0,m1,m2⟩:=HM5.out.cells
     go_wp2_with fail
     exact bodyPost_ret (results_tmp rfl _ _ _) rfl ⟨rfl,HB5.out⟩
    | true =>
     go_wp2_with fail
     refine (HA0.out _ HM4.out.r0).mono ?_
     rintro e w5 ⟨rfl,hb⟩
     have HM5:=aq (HM4.out.below hb)
     have HB5:=aq (below_step HB4.out hb)
     clear hb m0 m1 m2
     obtain ⟨m0,m1,m2⟩:=HM5.out.cells
     go_wp2_with fail
     refine (HE0.out _ HM5.out.r0).mono ?_
     rintro e w6 ⟨v6,rfl,hR,hb⟩
     obtain ⟨E6,d6,rfl,hd6,hE6⟩:=Kd.R_reads hR
     have HM6:=aq (HM5.out.below hb)
     have HB6:=aq (below_step HB5.out hb)
     have HU6:=aq (HU0.out E6 d6 w6 hE6 hd6)
     clear hb hR hE6 m0 m1 m2
     obtain ⟨m0,m1,m2⟩:=HM6.out.cells
     cases b5 with
     | false =>
      go_wp2_with fail
      refine (HU6.out).mono ?_
      rintro e w7 ⟨rfl,hb⟩
      have HM7:=aq (HM6.out.below hb)
      have HB7:=aq (below_step HB6.out hb)
      clear hb m0 m1 m2
      obtain ⟨m0,m1,m2⟩:=HM7.out.cells
      go_wp2_with fail
      exact bodyPost_ret (results_tmp rfl _ _ _) rfl ⟨rfl,HB7.out⟩
     | true =>
      go_wp2_with fail
      refine (HU6.out).mono ?_
      rintro e w7 ⟨rfl,hb⟩
      have HM7:=aq (HM6.out.below hb)
      have HB7:=aq (below_step HB6.out hb)
      clear hb m0 m1 m2
      obtain ⟨m0,m1,m2⟩:=HM7.out.cells
      cases b6 with
      | false =>
       go_wp2_with fail
       refine (HA1.out _ HM7.out.r1).mono ?_
       rintro e w8 ⟨rfl,hb⟩
       have HM8:=aq (HM7.out.below hb)
       have HB8:=aq (below_step HB7.out hb)
       clear hb m0 m1 m2
       obtain ⟨m0,m1,m2⟩:=HM8.out.cells
       go_wp2_with fail
       exact bodyPost_ret (results_tmp rfl _ _ _) rfl ⟨rfl,HB8.out⟩
      | true =>
       go_wp2_with fail
       refine (HA1.out _ HM7.out.r1).mono ?_
       rintro e w8 ⟨rfl,hb⟩
       have HM8:=aq (HM7.out.below hb)
       have HB8:=aq (below_step HB7.out hb)
       clear hb m0 m1 m2
       obtain ⟨m0,m1,m2⟩:=HM8.out.cells
       go_wp2_with fail
       refine (HE1.out _ HM8.out.r1).mono ?_
       rintro e w9 ⟨v9,rfl,hR,hb⟩
       obtain ⟨E9,d9,rfl,hd9,hE9⟩:=Kd.R_reads hR
       have HM9:=aq (HM8.out.below hb)
       have HB9:=aq (below_step HB8.out hb)
       have HU9:=aq (HU1.out E9 d9 w9 hE9 hd9)
       clear hb hR hE9 m0 m1 m2
       obtain ⟨m0,m1,m2⟩:=HM9.out.cells
       cases b7 with
       | false =>
        go_wp2_with fail
        refine (HU9.out).mono ?_
        rintro e w10 ⟨rfl,hb⟩
        have HM10:=aq (HM9.out.below hb)
        have HB10:=aq (below_step HB9.out hb)
        clear hb m0 m1 m2
        obtain ⟨m0,m1,m2⟩:=HM10.out.cells
        go_wp2_with fail
        exact bodyPost_ret (results_tmp rfl _ _ _) rfl ⟨rfl,HB10.out⟩
       | true =>
        go_wp2_with fail
        refine (HU9.out).mono ?_
        rintro e w10 ⟨rfl,hb⟩
        have HM10:=aq (HM9.out.below hb)
        have HB10:=aq (below_step HB9.out hb)
        clear hb m0 m1 m2
        obtain ⟨m0,m1,m2⟩:=HM10.out.cells
        cases b8 with
        | false =>
         go_wp2_with fail
         refine (HA2.out _ HM10.out).mono ?_
         rintro e w11 ⟨rfl,hb⟩
         have HM11:=aq (HM10.out.below hb)
         have HB11:=aq (below_step HB10.out hb)
         clear hb m0 m1 m2
         obtain ⟨m0,m1,m2⟩:=HM11.out.cells
         go_wp2_with fail
         exact bodyPost_ret (results_tmp rfl _ _ _) rfl ⟨rfl,HB11.out⟩
        | true =>
         go_wp2_with fail
         refine (HA2.out _ HM10.out).mono ?_
         rintro e w11 ⟨rfl,hb⟩
         have HM11:=aq (HM10.out.below hb)
         have HB11:=aq (below_step HB10.out hb)
         clear hb m0 m1 m2
         obtain ⟨m0,m1,m2⟩:=HM11.out.cells
         go_wp2_with fail
         refine (HE2.out _ HM11.out).mono ?_
         rintro e w12 ⟨v12,rfl,hR,hb⟩
         obtain ⟨E12,d12,rfl,hd12,hE12⟩:=Kd.R_reads hR
         have HM12:=aq (HM11.out.below hb)
         have HB12:=aq (below_step HB11.out hb)
         have HU12:=aq (HU2.out E12 d12 w12 hE12 hd12)
         clear hb hR hE12 m0 m1 m2
         obtain ⟨m0,m1,m2⟩:=HM12.out.cells
         go_wp2_with fail
         refine (HU12.out).mono ?_
         rintro e w13 ⟨rfl,hb⟩
         have HM13:=aq (HM12.out.below hb)
         have HB13:=aq (below_step HB12.out hb)
         clear hb m0 m1 m2
         obtain ⟨m0,m1,m2⟩:=HM13.out.cells
         go_wp2_with fail
         refine bodyPost_ret (results_tmp rfl _ _ _) rfl ⟨?_,HB13.out⟩
         rfl
end Go.Proofs.YtaokkkolbifdpaaGreatDoor.Hand
end

section
namespace Go.Proofs.YtaokkkolbifdpaaGreatDoor.Hand
open Go.RowKit Go.Shelf
def bldRen : Go.Shelf.Ren := ⟨fun | 166 => 53 | 167 => 54 | 240 => 81 | 276 => 105 | n => n, fun | 0 => 0 | 3 => 3 | 4 => 4 | 5 => 5 | 9 => 9 | 20 => 20 | 37 => 75 | 70 => 74 | 72 => 77 | 75 => 79 | 80 => 83 | 164 => 118 | n => n, fun n => n⟩
theorem bldLays166 : Go.Proofs.Lays.n166 Tryz.prog bldRen := {
 mixed:=by kernel_rfl
 f166:=Tryz.func53.trans (congrArg some (by kernel_rfl))
 f240:=Tryz.func81.trans (congrArg some (by kernel_rfl))
 f276:=Tryz.func105.trans (congrArg some (by kernel_rfl))
 t0:=Tryz.underlying0
 a0:=Tryz.isAgg0
 z0:=Tryz.sizeOf0
 v0:=Tryz.zeroValue0
 t3:=Tryz.underlying3
 a3:=Tryz.isAgg3
 z3:=Tryz.sizeOf3
 v3:=Tryz.zeroValue3
 t4:=Tryz.underlying4
 a4:=Tryz.isAgg4
 z4:=Tryz.sizeOf4
 v4:=Tryz.zeroValue4
 t9:=Tryz.underlying9
 a9:=Tryz.isAgg9
 z9:=Tryz.sizeOf9
 v9:=Tryz.zeroValue9
 t20:=Tryz.underlying20
 a20:=Tryz.isAgg20
 z20:=Tryz.sizeOf20
 v20:=Tryz.zeroValue20
 t37:=Tryz.underlying75
 a37:=Tryz.isAgg75
 z37:=Tryz.sizeOf75
 v37:=Tryz.zeroValue75
 t70:=Tryz.underlying74
 a70:=Tryz.isAgg74
 z70:=Tryz.sizeOf74
 v70:=Tryz.zeroValue74
 t72:=Tryz.underlying77
 a72:=Tryz.isAgg77
 z72:=Tryz.sizeOf77
 v72:=Tryz.zeroValue77
 t75:=Tryz.underlying79
 a75:=Tryz.isAgg79
 z75:=Tryz.sizeOf79
 v75:=Tryz.zeroValue79
 t164:=Tryz.underlying118
 a164:=Tryz.isAgg118
 z164:=Tryz.sizeOf118
 v164:=Tryz.zeroValue118 }
theorem bldLays167 : Go.Proofs.Lays.n167 Tryz.prog bldRen := {
 mixed:=by kernel_rfl
 f167:=Tryz.func54.trans (congrArg some (by kernel_rfl))
 f240:=Tryz.func81.trans (congrArg some (by kernel_rfl))
 f276:=Tryz.func105.trans (congrArg some (by kernel_rfl))
 t0:=Tryz.underlying0
 a0:=Tryz.isAgg0
 z0:=Tryz.sizeOf0
 v0:=Tryz.zeroValue0
 t4:=Tryz.underlying4
 a4:=Tryz.isAgg4
 z4:=Tryz.sizeOf4
 v4:=Tryz.zeroValue4
 t5:=Tryz.underlying5
 a5:=Tryz.isAgg5
 z5:=Tryz.sizeOf5
 v5:=Tryz.zeroValue5
 t9:=Tryz.underlying9
 a9:=Tryz.isAgg9
 z9:=Tryz.sizeOf9
 v9:=Tryz.zeroValue9
 t20:=Tryz.underlying20
 a20:=Tryz.isAgg20
 z20:=Tryz.sizeOf20
 v20:=Tryz.zeroValue20
 t37:=Tryz.underlying75
 a37:=Tryz.isAgg75
 z37:=Tryz.sizeOf75
 v37:=Tryz.zeroValue75
 t70:=Tryz.underlying74
 a70:=Tryz.isAgg74
 z70:=Tryz.sizeOf74
 v70:=Tryz.zeroValue74
 t72:=Tryz.underlying77
 a72:=Tryz.isAgg77
 z72:=Tryz.sizeOf77
 v72:=Tryz.zeroValue77
 t75:=Tryz.underlying79
 a75:=Tryz.isAgg79
 z75:=Tryz.sizeOf79
 v75:=Tryz.zeroValue79
 t164:=Tryz.underlying118
 a164:=Tryz.isAgg118
 z164:=Tryz.sizeOf118
 v164:=Tryz.zeroValue118 }
theorem bldExtra : Builder.Extra Tryz.prog bldRen := {
 sizeBuilder:=by kernel_rfl
 liesBuilder:=by kernel_rfl
 t5:=Tryz.underlying5
 a5:=Tryz.isAgg5
 z5:=Tryz.sizeOf5
 v5:=Tryz.zeroValue5
 infoByte:=by kernel_rfl
 cellsByte:=by kernel_rfl
 sizeByte:=by kernel_rfl
 neB5:=by decide }
end Go.Proofs.YtaokkkolbifdpaaGreatDoor.Hand
end

section
namespace Go.Proofs.YtaokkkolbifdpaaGreatDoor.Hand
open Go.RowKit Go.Shelf Go.Proofs.YtaokkkolbifdpaaGreatDoorW.PrintWords Go.Proofs.YtaokkkolbifdpaaGreatDoorW.PrintLast Go.Proofs.YtaokkkolbifdpaaGreatDoorW.PrintMore
theorem blank_until {x : List UInt8} (h : (32 : UInt8) ∉ x) : blank x = false := by
 unfold blank
 rw [List.any_eq_false]
 intro b hb
 rw [beq_iff_eq]
 rintro rfl
 exact h hb
theorem fields_until (l : List UInt8) : fieldsL l = match untilL 32 l with | some (x, r) => x :: fieldsL r | none => [l] := by
 cases hu : untilL 32 l with
 | none =>
  have h:=(until_none l).1 hu
  unfold fieldsL
  rw [fld_last l [] (blank_until h)]
  rfl
 | some p =>
  obtain ⟨x,r⟩:=p
  obtain ⟨e,h⟩:=until_some l x r hu
  unfold fieldsL
  rw [e,fld_word x [] r (blank_until h)]
  rfl
theorem index_until (c : UInt8) (l : List UInt8) : (untilL c l = none ∧ Lib.index l [c] = -1) ∨ ∃ x r, untilL c l = some (x, r) ∧ Lib.index l [c] = (x.length : Int) ∧ l.take x.length = x ∧ l.drop (x.length + 1) = r := by
 have hc:=cut_until c l
 have hge:=Lib.index_ge l [c]
 have hroom:=Lib.index_room l [c]
 unfold Lib.cut at hc
 cases hu : untilL c l with
 | none =>
  left
  rw [hu] at hc
  split at hc
  ·
   simp at hc
  ·
   exact ⟨rfl,by omega⟩
 | some p =>
  obtain ⟨x,r⟩:=p
  right
  rw [hu] at hc
  split at hc
  ·
   rename_i hi
   simp only [Prod.mk.injEq,and_true] at hc
   have hr:=hroom hi
   have hl : x.length = (Lib.index l [c]).toNat:=by
    rw [← hc.1,List.length_take]
    simp at hr
    omega
   refine ⟨x,r,rfl,by omega,?_,?_⟩
   ·
    rw [hl];exact hc.1
   ·
    rw [hl];exact hc.2
  ·
   simp at hc
theorem split_fields : ∀ (f : Nat) (l : List UInt8), l.length < f → Lib.splitK [32] 0 (Lib.countFrom [32] f l) l = fieldsL l ∧ (fieldsL l).length = Lib.countFrom [32] f l + 1
 | 0,l,h => by omega
 | f + 1,l,h => by
  rw [Lib.countFrom,fields_until]
  rcases index_until 32 l with ⟨h1,h2⟩|⟨x,r,h1,h2,h3,h4⟩
  ·
   rw [h2,h1]
   simp [Lib.splitK]
  ·
   have hx : (Lib.index l [32] == -1) = false:=beq_eq_false_iff_ne.2 (by omega)
   have e : (Lib.index l [32]).toNat = x.length:=by omega
   have hl:=(until_some l x r h1).1
   have hr : r.length < f:=by rw [hl] at h;simp at h;omega
   obtain ⟨i1,i2⟩:=split_fields f r hr
   rw [hx,h1]
   simp only [Bool.false_eq_true,if_false]
   have e2 : [(32 : UInt8)].length = 1:=rfl
   rw [e,e2,h4,Nat.add_comm 1,Lib.splitK,hx]
   simp only [Bool.false_eq_true,if_false]
   rw [e,Nat.add_zero,e2,h3,h4,i1]
   exact ⟨rfl,by rw [List.length_cons,i2]⟩
theorem join_line : ∀ l : List (List UInt8), Lib.join l [32] = lineL l
 | [] => rfl
 | [x] => by rw [Lib.join_one];rfl
 | x :: y :: l => by
  have ih:=join_line (y :: l)
  rw [Lib.join_cons] at ih ⊢
  rw [lineL_cons _ _ (by simp),← ih]
  simp [Lib.joinTail]
theorem str_cells (s : ByteArray) : Lib.strCells s = Lib.byteCells (bl s) := rfl
theorem byteCells_append (a b : List UInt8) : Lib.byteCells (a ++ b) = Lib.byteCells a ++ Lib.byteCells b := by simp [Lib.byteCells]
theorem byteCells_len (a : List UInt8) : (Lib.byteCells a).length = a.length := by simp [Lib.byteCells]
theorem textL_take (l : List ByteArray) (i : Nat) (h : i < l.length) : textL ((l.map bl).take (i + 1)) = textL ((l.map bl).take i) ++ bl (rdOf ByteArray.empty l (i : Int)) ++ [10] := by
 have hr : rdOf ByteArray.empty l (i : Int) = l[i]:=by simp [rdOf,List.getElem?_eq_getElem h]
 rw [List.take_succ_eq_append_getElem (by simpa using h),textL_append,hr]
 simp [textL]
theorem textL_take_le (l : List ByteArray) (i : Nat) : (textL ((l.map bl).take i)).length ≤ (textL (l.map bl)).length := by
 have:=textL_append ((l.map bl).take i) ((l.map bl).drop i)
 rw [List.take_append_drop] at this
 rw [this]
 simp
def word_Text.f (l0 : List ByteArray) : Option ByteArray := if (textL (l0.map bl)).length ≤ 140737488355000 then some (lb (textL (l0.map bl))) else none
abbrev BldT : TypeId := 77
theorem word_Text.calls (A0 : Option Addr) (c0 : Nat) (l0 : List ByteArray) (r : ByteArray) (w : World) (hr0 : Kd.C Kd.string w A0 l0.length l0) (hc0 : l0.length ≤ c0) (h : word_Text.f l0 = some r) :
  Calls Tryz.prog 26 #[.slice A0 l0.length c0] w fun e w' => e = .returned (.string r) ∧ Below w.heap.size w w':=by
 unfold word_Text.f at h
 split at h
 ·
  rename_i hg
  obtain rfl:=Option.some.inj h
  clear h
  have HG:=aq hg
  have HR0:=aq hr0
  have HC0:=aq hc0
  have HM:=aq (Kd.C_max hr0)
  clear hr0 hc0 hg
  go_enter Tryz.func26,Tryz.ntmps26
  go_wp2
  go_loopw [8] (fun v8 wr => ∃ i : Nat,v8 = .int .i64 (i : Int) ∧ i ≤ l0.length ∧ Aside0 (Lib.IsBuilder BldT 5 w.heap.size w.heap.size (Lib.byteCells (textL ((l0.map bl).take i))) wr) ∧ Aside0 (Below w.heap.size w wr)) (fun v8 _ => l0.length - (intOf v8).toNat)
  case atStart =>
   exact ⟨0,rfl,Nat.zero_le _,⟨.inl ⟨Nat.le_refl _,.slice none 0 0,blk_new _ _,World.ownsRow_nil _ _ _ _,by simp [Value.ownBlock]⟩⟩,⟨below_alloc (Below.refl _ _) _⟩⟩
  case round =>
   obtain ⟨i,rfl,hi,HBd,HB⟩:=hrel
   by_cases hlt : i < l0.length
   ·
    have hm:=HM.out
    have p1 : (0 ≤ (i : Int)) = True:=eq_true (by omega)
    have q1 : ((i : Int) < (l0.length : Int)) = True:=eq_true (by omega)
    have d1 : decide ((i : Int) < (l0.length : Int)) = true:=decide_eq_true (by omega)
    have d2 : decide (i < l0.length) = true:=decide_eq_true hlt
    have d3 : decide (0 ≤ (i : Int)) = true:=decide_eq_true (by omega)
    obtain ⟨ad,rfl,hcell⟩:=Kd.at_string (Kd.C_below HR0.out HB.out) (i : Int) (by omega) (by omega)
    have HT:=aq (textL_take l0 i hlt)
    have hle:=textL_take_le l0 (i + 1)
    rw [HT.out] at hle
    simp only [List.length_append,List.length_singleton,bl_len] at hle
    obtain ⟨s,hs⟩ : ∃ s,s = rdOf ByteArray.empty l0 (i : Int):=⟨_,rfl⟩
    rw [← hs,Int.toNat_natCast] at hcell
    rw [← hs] at hle HT
    clear hs
    have hw : IntKind.i64.wrap ((i : Int) + 1) = ((i + 1 : Nat) : Int):=by rw [IntKind.wrap_i64];omega
    have HW1:=aq (Any.Builder_WriteString bldLays166 bldExtra w.heap.size w.heap.size _ s wr HBd.out (by rw [byteCells_len];have:=HG.out;omega) HB.out.size)
    go_wp2_with fail
    refine HW1.out.mono ?_
    rintro e w1 ⟨rfl,hb1,hbl1⟩
    have HB1:=aq (HB.out.trans hbl1)
    rw [str_cells,← byteCells_append] at hb1
    have HW2:=aq (Any.Builder_WriteByte bldLays167 bldExtra w.heap.size w.heap.size _ 10 w1 (.inr hb1) (by rw [byteCells_len];simp only [List.length_append,bl_len];have:=HG.out;omega) HB1.out.size)
    clear hb1 hbl1 HW1 hcell
    go_wp2_with fail
    refine HW2.out.mono ?_
    rintro e w2 ⟨rfl,hb2,hbl2⟩
    have HB2:=aq (HB1.out.trans hbl2)
    have HBd2 : Aside0 (Lib.IsBuilder BldT 5 w.heap.size w.heap.size (Lib.byteCells (textL ((l0.map bl).take (i + 1)))) w2):=⟨.inr (by rw [HT.out,byteCells_append];exact hb2)⟩
    clear hb2 hbl2 HW2 hle
    go_wp2
    go_roundw
    case rel => exact ⟨i + 1,by go_num,hlt,HBd2,HB2⟩
    case measure => simp [intOf];omega
   ·
    have hil : i = l0.length:=by omega
    subst hil
    have d1 : decide ((l0.length : Int) < (l0.length : Int)) = false:=decide_eq_false (by omega)
    have hfull : (l0.map bl).take l0.length = l0.map bl:=List.take_of_length_le (by simp)
    have HS:=aq (Tryz.Builder_String_any w.heap.size w.heap.size (textL (l0.map bl)) wr (by rw [← hfull];exact HBd.out) HB.out.size)
    clear hfull hlt
    go_wp2_with fail
    refine HS.out.mono ?_
    rintro e w1 ⟨rfl,hb1⟩
    have HB1:=aq (HB.out.trans hb1)
    clear hb1
    go_wp2
    go_ret
    exact ⟨rfl,HB1.out⟩
 ·
  cases h
def word_Fields.f (s : ByteArray) : Option (List ByteArray) := if s.size < 4294967281 then some ((fieldsL (bl s)).map lb) else none
theorem splitB_fields (s : ByteArray) : (Lib.splitB ⟨#[32]⟩ 0 (Lib.countB s ⟨#[32]⟩) s) = (fieldsL (bl s)).map lb ∧ (fieldsL (bl s)).length = Lib.countB s ⟨#[32]⟩ + 1 := by
 have hc : Lib.countB s ⟨#[32]⟩ = Lib.countFrom [32] ((bl s).length + 1) (bl s):=rfl
 obtain ⟨h1,h2⟩:=split_fields ((bl s).length + 1) (bl s) (by omega)
 rw [hc]
 refine ⟨?_,h2⟩
 have hd:=Lib.splitB_data ⟨#[32]⟩ 0 (Lib.countFrom [32] ((bl s).length + 1) (bl s)) s
 have e : (⟨#[32]⟩ : ByteArray).data.toList = [32]:=rfl
 rw [e,show s.data.toList = bl s from rfl,h1] at hd
 rw [← hd,List.map_map]
 conv => lhs;rw [← List.map_id (Lib.splitB _ _ _ _)]
 exact List.map_congr_left fun x _ => (lb_bl x).symm
theorem full_row {W : World} {base e g n : Nat} {xs : List Value} (h : W.heap[g]? = some (.cells xs.toArray e (0, 0))) (hn : xs.length = n) (hb : base ≤ g) (hm : n ≤ maxLen) : W.ownsRow base e 1 (.slice (some ⟨g, 0, none⟩) n n) n xs :=
 ⟨by omega,.inr ⟨g,n,xs.toArray,rfl,hb,h,Nat.le_refl _,hm,by simp [hn],by simp [← hn]⟩⟩
theorem fld_len : ∀ (s cur : List UInt8), (fld cur s).length ≤ s.length + 1
 | [],_ => by simp [fld]
 | b :: s,cur => by
  unfold fld
  split
  ·
   have:=fld_len s [];simp;omega
  ·
   have:=fld_len s (cur ++ [b]);simp;omega
theorem word_Fields.calls (a0 : ByteArray) (r : List ByteArray) (w : World) (hGMaxL : MaxL w) (h : word_Fields.f a0 = some r) :
  Calls Tryz.prog 18 #[.string a0] w fun e w' => ∃ v0_ : Value,e = .returned (v0_) ∧ Kd.R Kd.string 9 w' w.heap.size (fun _ => True) v0_ r ∧ Below w.heap.size w w':=by
 unfold word_Fields.f at h
 split at h
 ·
  rename_i hs
  obtain rfl:=Option.some.inj h
  clear h
  obtain ⟨m,hm⟩:=hGMaxL
  have HS:=aq (Tryz.strings_Split a0 ⟨#[32]⟩ m w hs hm (by decide))
  obtain ⟨h1,h2⟩:=splitB_fields a0
  have hlen : (fieldsL (bl a0)).length ≤ a0.size + 1:=by have:=fld_len (bl a0) [];rw [bl_len] at this;exact this
  rw [h1,← h2] at HS
  have HF:=aq (full_row (base:=w.heap.size) (e:=9) (n:=(fieldsL (bl a0)).length) (xs:=((fieldsL (bl a0)).map lb).map Value.string) (blk_new w (.cells (((fieldsL (bl a0)).map lb).map Value.string).toArray 9)) (by simp) (Nat.le_refl _) (by unfold maxLen;omega))
  clear hm h1 h2 hs hlen
  go_enter Tryz.func18,Tryz.ntmps18
  go_wp2_with fail
  refine HS.out.mono ?_
  rintro e w1 ⟨rfl,rfl⟩
  go_wp2
  go_ret
  refine ⟨_,rfl,Kd.R_of_own ?_ (fun _ _ => trivial),below_alloc (Below.refl _ _) _⟩
  have hf:=HF.out
  rw [List.map_map] at hf
  have e1 : encs Value.string (List.map lb (fieldsL (bl a0))) = List.map (Value.string ∘ lb) (fieldsL (bl a0)):=by simp [encs]
  rw [List.length_map,e1]
  exact hf
 ·
  cases h
def word_Line.f (l0 : List ByteArray) : Option ByteArray := if (lineL (l0.map bl)).length ≤ 140737488355328 ∧ l0.length ≤ 140737488355328 then some (lb (lineL (l0.map bl))) else none
theorem word_Line.calls (A0 : Option Addr) (c0 : Nat) (l0 : List ByteArray) (r : ByteArray) (w : World) (hr0 : Kd.C Kd.string w A0 l0.length l0) (hc0 : l0.length ≤ c0) (h : word_Line.f l0 = some r) :
  Calls Tryz.prog 23 #[.slice A0 l0.length c0] w fun e w' => e = .returned (.string r) ∧ Below w.heap.size w w':=by
 unfold word_Line.f at h
 split at h
 ·
  rename_i hg
  obtain rfl:=Option.some.inj h
  clear h
  have HS : Aside0 (Calls Tryz.prog 38 #[.slice A0 l0.length c0,.string ⟨#[32]⟩] w fun e w' => e = .returned (.string (lb (lineL (l0.map bl)))) ∧ Below w.heap.size w w'):=⟨by
   have hj : Lib.join (l0.map (·.data.toList)) (⟨#[32]⟩ : ByteArray).data.toList = lineL (l0.map bl):=join_line _
   cases hl : l0 with
   | nil =>
    have:=Tryz.strings_Join_none A0 c0 ⟨#[32]⟩ w
    refine this.mono ?_
    rintro e w' ⟨rfl,rfl⟩
    exact ⟨rfl,Below.refl _ _⟩
   | cons x xs =>
    rw [← hl]
    have hpos : 0 < l0.length:=by rw [hl];simp
    obtain ⟨ad,rfl,h0⟩:=Kd.at_string hr0 0 (by omega) (by omega)
    have hsp : ad = ⟨ad.block,ad.off,none⟩:=by
     have e0 : ad.add (0 : Int).toNat = ad:=rfl
     rw [e0] at h0
     cases ad with
     | mk b o sp =>
      cases sp with
      | none => rfl
      | some z => unfold World.cell? at h0;split at h0 <;> simp at h0
    have hb : ad.block < w.heap.size:=by
     have e0 : ad.add (0 : Int).toNat = ad:=rfl
     rw [e0] at h0
     exact World.block_lt_of_cell? w _ h0
    have:=Tryz.strings_Join ad.block ad.off c0 l0 ⟨#[32]⟩ w (fun j x hj => by
     have hlt : j < l0.length:=(List.getElem?_eq_some_iff.1 hj).1
     obtain ⟨ad2,e2,h2⟩:=Kd.at_string hr0 (j : Int) (by omega) (by omega)
     cases e2
     rw [Int.toNat_natCast] at h2
     have e3 : rdOf ByteArray.empty l0 (j : Int) = x:=by simp [rdOf,hj]
     rw [e3,hsp] at h2
     have e4 : (⟨ad.block,ad.off,none⟩ : Addr).add j = ⟨ad.block,ad.off + j,none⟩:=by cases j <;> rfl
     rw [← e4]
     exact h2) hb hg.2 hc0 (by rw [hj];exact hg.1)
    rw [hj,← hsp] at this
    exact this⟩
  clear hr0 hc0 hg
  go_enter Tryz.func23,Tryz.ntmps23
  go_wp2_with fail
  refine HS.out.mono ?_
  rintro e w1 ⟨rfl,hb⟩
  go_wp2
  go_ret
  exact ⟨rfl,hb⟩
 ·
  cases h
end Go.Proofs.YtaokkkolbifdpaaGreatDoor.Hand
end
