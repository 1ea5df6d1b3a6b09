import Derived.Test.YtfplcohjnlbfjaaMgGenWithin1
import Derived.Test.YtfplcohjnlbfjaaProg
import Derived.Below
import Derived.Deep.Draws
import Derived.Deep.AppendLies
import Derived.Maps.AppendAt
import Derived.OwnWalk
import Derived.Laws.BytesArg
import Derived.Laws.MakeOwn
import Derived.Laws.OwnMore
import Derived.Deep.OwnRows
import Derived.Tactics
import Derived.Lib.ConvBytes
import Derived.Laws.Slices
import Derived.WalkKit
import Derived.KernelRfl
import Derived.RowKit3
import Derived.Deep.LoopGhost
import Derived.Deep.QuietTactic
import Derived.BigQuiet
import Derived.WideLaws
import Derived.Deep.DeepCutAuto
import Derived.Deep.CutBlock
import Derived.Deep.RegionHeld3
import Derived.Laws.Rows
import Derived.Lib.AppendStr
import Derived.ArgAppend
import Derived.Laws.IdiomCopy
import Derived.OrdersHeld
import Derived.Laws.BitsLemmas
import Derived.RowKit
import Derived.Test.YtfplcohjnlbfjaaMgGenWithin0
import Derived.Shelf.Strings.Search1
import Derived.Shelf.Strings.Search2
import Derived.Shelf.Strings.Cut
import Derived.Shelf.LaysM
import Derived.Shelf.Strings.Shaped
import Derived.Lib.Hide
import Derived.Laws.CopyOwn
import Derived.Laws.Strings
import Derived.Maps.OwnIn
import Derived.IntWalk
import Derived.RangeFuncRecord
import Derived.RangeFuncBox
set_option linter.unusedVariables false
set_option linter.unusedSimpArgs false
set_option maxHeartbeats 64000000
set_option maxRecDepth 100000
section
namespace Go.Proofs.Ytfplcohjnlbfjaa.Q43
open Go.RowKit Go.Proofs.YtfplcohjnlbfjaaW
open PrintWords PrintLast PrintMore Go.Proofs.Ytfplcohjnlbfjaa.Hand
attribute [local go_sem] max2_int min2_int max_two min_two max_three min_three max_four min_four
def gen_Reg.f (a0_0 : ByteArray) (a0_1 : ByteArray) (a0_2 : ByteArray) (a1 : Int) : Option (Int × ByteArray × ByteArray × ByteArray × Int × ByteArray × ByteArray × ByteArray × ByteArray × ByteArray × Int × ByteArray) := some (1, a0_0, a0_1, a0_2, a1, (⟨#[]⟩ : ByteArray), (⟨#[]⟩ : ByteArray), (⟨#[]⟩ : ByteArray), (⟨#[]⟩ : ByteArray), (⟨#[]⟩ : ByteArray), 0, (⟨#[]⟩ : ByteArray))
theorem gen_Reg.calls (a0_0 : ByteArray) (a0_1 : ByteArray) (a0_2 : ByteArray) (a1 : Int) (r1 : Int) (r2 : ByteArray) (r3 : ByteArray) (r4 : ByteArray) (r5 : Int) (r6 : ByteArray) (r7 : ByteArray) (r8 : ByteArray) (r9 : ByteArray) (r10 : ByteArray) (r11 : Int) (r12 : ByteArray) (w : World) (h : gen_Reg.f a0_0 a0_1 a0_2 a1 = some (r1, r2, r3, r4, r5, r6, r7, r8, r9, r10, r11, r12)) :
    Calls Try.prog 13 #[.agg #[.string a0_0,.string a0_1,.string a0_2],.int .i64 a1] w fun e w' => e = .returned (.agg #[.int .i64 r1,.string r2,.string r3,.string r4,.int .i64 r5,.string r6,.string r7,.string r8,.string r9,.string r10,.int .i64 r11,.string r12]) ∧ Below w.heap.size w w':=by
 have hu25:=Try.underlying25
 have hu50:=Try.underlying50
 have HB:=aq (Below.refl w.heap.size w)
 have H : (some (1,a0_0,a0_1,a0_2,a1,(⟨#[]⟩ : ByteArray),(⟨#[]⟩ : ByteArray),(⟨#[]⟩ : ByteArray),(⟨#[]⟩ : ByteArray),(⟨#[]⟩ : ByteArray),0,(⟨#[]⟩ : ByteArray))) = some (r1,r2,r3,r4,r5,r6,r7,r8,r9,r10,r11,r12):=h
 clear h
 simp only [Option.some.injEq,Prod.mk.injEq] at H
 obtain ⟨rfl,rfl,rfl,rfl,rfl,rfl,rfl,rfl,rfl,rfl,rfl,rfl⟩:=H
 go_enter Try.func13,Try.ntmps13
 go_wp2_with (first|((with_reducible refine gate_dst (N:=2) rfl ?_);refine box_event rfl (N:=2) rfl (cs:=#[.string a0_0,.string a0_1,.string a0_2]) (t:=25) gS ?_;intro gb101 hg w3 hbox hb;have BK101:=aq (hbox);have GE101:=aq ((GN hg : w.heap.size ≤ gb101));replace HB:=aq (below_step bH hb);clear hb hbox hg)|((with_reducible refine gate_dst (N:=4) rfl ?_);refine box_event rfl (N:=4) rfl (cs:=#[.int .i64 0,.string (⟨#[]⟩ : ByteArray),.string (⟨#[]⟩ : ByteArray),.string (⟨#[]⟩ : ByteArray),.int .i64 0,.string (⟨#[]⟩ : ByteArray),.string (⟨#[]⟩ : ByteArray),.string (⟨#[]⟩ : ByteArray),.string (⟨#[]⟩ : ByteArray),.string (⟨#[]⟩ : ByteArray),.int .i64 0,.string (⟨#[]⟩ : ByteArray)]) (t:=50) gS ?_;intro gb102 hg w4 hbox hb;have BK102:=aq (hbox);have GE102:=aq ((GN hg : w.heap.size ≤ gb102));have NB101_102:=aq (NL hg BK101);have NB102_101:=aq (NG hg BK101);replace BK101:=KN BK101 hb;replace HB:=aq (below_step bH hb);clear hb hbox hg;have hnb5:=NB101_102.out;have hnc5:=NB102_101.out;have hcz6_0 : w4.cell? ⟨gb101,0,none⟩ = some (.string a0_0):=(blk_cell BK101.out 0).trans rfl;have hcz6_1 : w4.cell? ⟨gb101,1,none⟩ = some (.string a0_1):=(blk_cell BK101.out 1).trans rfl;have hcz6_2 : w4.cell? ⟨gb101,2,none⟩ = some (.string a0_2):=(blk_cell BK101.out 2).trans rfl;have hfz6_0:=blk_frozen BK101.out 0;have hfz6_1:=blk_frozen BK101.out 1;have hfz6_2:=blk_frozen BK101.out 2;have hcz7_0 : w4.cell? ⟨gb102,0,none⟩ = some (.int .i64 0):=(blk_cell BK102.out 0).trans rfl;have hcz7_1 : w4.cell? ⟨gb102,1,none⟩ = some (.string (⟨#[]⟩ : ByteArray)):=(blk_cell BK102.out 1).trans rfl;have hcz7_2 : w4.cell? ⟨gb102,2,none⟩ = some (.string (⟨#[]⟩ : ByteArray)):=(blk_cell BK102.out 2).trans rfl;have hcz7_3 : w4.cell? ⟨gb102,3,none⟩ = some (.string (⟨#[]⟩ : ByteArray)):=(blk_cell BK102.out 3).trans rfl;have hcz7_4 : w4.cell? ⟨gb102,4,none⟩ = some (.int .i64 0):=(blk_cell BK102.out 4).trans rfl;have hcz7_5 : w4.cell? ⟨gb102,5,none⟩ = some (.string (⟨#[]⟩ : ByteArray)):=(blk_cell BK102.out 5).trans rfl;have hcz7_6 : w4.cell? ⟨gb102,6,none⟩ = some (.string (⟨#[]⟩ : ByteArray)):=(blk_cell BK102.out 6).trans rfl;have hcz7_7 : w4.cell? ⟨gb102,7,none⟩ = some (.string (⟨#[]⟩ : ByteArray)):=(blk_cell BK102.out 7).trans rfl;have hcz7_8 : w4.cell? ⟨gb102,8,none⟩ = some (.string (⟨#[]⟩ : ByteArray)):=(blk_cell BK102.out 8).trans rfl;have hcz7_9 : w4.cell? ⟨gb102,9,none⟩ = some (.string (⟨#[]⟩ : ByteArray)):=(blk_cell BK102.out 9).trans rfl;have hcz7_10 : w4.cell? ⟨gb102,10,none⟩ = some (.int .i64 0):=(blk_cell BK102.out 10).trans rfl;have hcz7_11 : w4.cell? ⟨gb102,11,none⟩ = some (.string (⟨#[]⟩ : ByteArray)):=(blk_cell BK102.out 11).trans rfl;have hfz7_0:=blk_frozen BK102.out 0;have hfz7_1:=blk_frozen BK102.out 1;have hfz7_2:=blk_frozen BK102.out 2;have hfz7_3:=blk_frozen BK102.out 3;have hfz7_4:=blk_frozen BK102.out 4;have hfz7_5:=blk_frozen BK102.out 5;have hfz7_6:=blk_frozen BK102.out 6;have hfz7_7:=blk_frozen BK102.out 7;have hfz7_8:=blk_frozen BK102.out 8;have hfz7_9:=blk_frozen BK102.out 9;have hfz7_10:=blk_frozen BK102.out 10;have hfz7_11:=blk_frozen BK102.out 11))
 refine bodyPost_ret (results_cell_row rfl _ _ gb102 50 #[.int .i64 1,.string a0_0,.string a0_1,.string a0_2,.int .i64 a1,.string (⟨#[]⟩ : ByteArray),.string (⟨#[]⟩ : ByteArray),.string (⟨#[]⟩ : ByteArray),.string (⟨#[]⟩ : ByteArray),.string (⟨#[]⟩ : ByteArray),.int .i64 0,.string (⟨#[]⟩ : ByteArray)] (0,0) _ rfl (by refine KU ?_;refine blk_put (cs:=#[.int .i64 1,.string a0_0,.string a0_1,.string a0_2,.int .i64 a1,.string (⟨#[]⟩ : ByteArray),.string (⟨#[]⟩ : ByteArray),.string (⟨#[]⟩ : ByteArray),.string (⟨#[]⟩ : ByteArray),.string (⟨#[]⟩ : ByteArray),.int .i64 0,.string (⟨#[]⟩ : ByteArray)]) ?_ 11 _ rfl;refine KU ?_;refine blk_put (cs:=#[.int .i64 1,.string a0_0,.string a0_1,.string a0_2,.int .i64 a1,.string (⟨#[]⟩ : ByteArray),.string (⟨#[]⟩ : ByteArray),.string (⟨#[]⟩ : ByteArray),.string (⟨#[]⟩ : ByteArray),.string (⟨#[]⟩ : ByteArray),.int .i64 0,.string (⟨#[]⟩ : ByteArray)]) ?_ 10 _ rfl;refine KU ?_;refine blk_put (cs:=#[.int .i64 1,.string a0_0,.string a0_1,.string a0_2,.int .i64 a1,.string (⟨#[]⟩ : ByteArray),.string (⟨#[]⟩ : ByteArray),.string (⟨#[]⟩ : ByteArray),.string (⟨#[]⟩ : ByteArray),.string (⟨#[]⟩ : ByteArray),.int .i64 0,.string (⟨#[]⟩ : ByteArray)]) ?_ 9 _ rfl;refine KU ?_;refine blk_put (cs:=#[.int .i64 1,.string a0_0,.string a0_1,.string a0_2,.int .i64 a1,.string (⟨#[]⟩ : ByteArray),.string (⟨#[]⟩ : ByteArray),.string (⟨#[]⟩ : ByteArray),.string (⟨#[]⟩ : ByteArray),.string (⟨#[]⟩ : ByteArray),.int .i64 0,.string (⟨#[]⟩ : ByteArray)]) ?_ 8 _ rfl;refine KU ?_;refine blk_put (cs:=#[.int .i64 1,.string a0_0,.string a0_1,.string a0_2,.int .i64 a1,.string (⟨#[]⟩ : ByteArray),.string (⟨#[]⟩ : ByteArray),.string (⟨#[]⟩ : ByteArray),.string (⟨#[]⟩ : ByteArray),.string (⟨#[]⟩ : ByteArray),.int .i64 0,.string (⟨#[]⟩ : ByteArray)]) ?_ 7 _ rfl;refine KU ?_;refine blk_put (cs:=#[.int .i64 1,.string a0_0,.string a0_1,.string a0_2,.int .i64 a1,.string (⟨#[]⟩ : ByteArray),.string (⟨#[]⟩ : ByteArray),.string (⟨#[]⟩ : ByteArray),.string (⟨#[]⟩ : ByteArray),.string (⟨#[]⟩ : ByteArray),.int .i64 0,.string (⟨#[]⟩ : ByteArray)]) ?_ 6 _ rfl;refine KU ?_;refine blk_put (cs:=#[.int .i64 1,.string a0_0,.string a0_1,.string a0_2,.int .i64 a1,.string (⟨#[]⟩ : ByteArray),.string (⟨#[]⟩ : ByteArray),.string (⟨#[]⟩ : ByteArray),.string (⟨#[]⟩ : ByteArray),.string (⟨#[]⟩ : ByteArray),.int .i64 0,.string (⟨#[]⟩ : ByteArray)]) ?_ 5 _ rfl;refine KU ?_;refine blk_put (cs:=#[.int .i64 1,.string a0_0,.string a0_1,.string a0_2,.int .i64 0,.string (⟨#[]⟩ : ByteArray),.string (⟨#[]⟩ : ByteArray),.string (⟨#[]⟩ : ByteArray),.string (⟨#[]⟩ : ByteArray),.string (⟨#[]⟩ : ByteArray),.int .i64 0,.string (⟨#[]⟩ : ByteArray)]) ?_ 4 _ rfl;refine KU ?_;refine blk_put (cs:=#[.int .i64 1,.string a0_0,.string a0_1,.string (⟨#[]⟩ : ByteArray),.int .i64 0,.string (⟨#[]⟩ : ByteArray),.string (⟨#[]⟩ : ByteArray),.string (⟨#[]⟩ : ByteArray),.string (⟨#[]⟩ : ByteArray),.string (⟨#[]⟩ : ByteArray),.int .i64 0,.string (⟨#[]⟩ : ByteArray)]) ?_ 3 _ rfl;refine KU ?_;refine blk_put (cs:=#[.int .i64 1,.string a0_0,.string (⟨#[]⟩ : ByteArray),.string (⟨#[]⟩ : ByteArray),.int .i64 0,.string (⟨#[]⟩ : ByteArray),.string (⟨#[]⟩ : ByteArray),.string (⟨#[]⟩ : ByteArray),.string (⟨#[]⟩ : ByteArray),.string (⟨#[]⟩ : ByteArray),.int .i64 0,.string (⟨#[]⟩ : ByteArray)]) ?_ 2 _ rfl;refine KU ?_;refine blk_put (cs:=#[.int .i64 1,.string (⟨#[]⟩ : ByteArray),.string (⟨#[]⟩ : ByteArray),.string (⟨#[]⟩ : ByteArray),.int .i64 0,.string (⟨#[]⟩ : ByteArray),.string (⟨#[]⟩ : ByteArray),.string (⟨#[]⟩ : ByteArray),.string (⟨#[]⟩ : ByteArray),.string (⟨#[]⟩ : ByteArray),.int .i64 0,.string (⟨#[]⟩ : ByteArray)]) ?_ 1 _ rfl;refine KU ?_;refine blk_put (cs:=#[.int .i64 0,.string (⟨#[]⟩ : ByteArray),.string (⟨#[]⟩ : ByteArray),.string (⟨#[]⟩ : ByteArray),.int .i64 0,.string (⟨#[]⟩ : ByteArray),.string (⟨#[]⟩ : ByteArray),.string (⟨#[]⟩ : ByteArray),.string (⟨#[]⟩ : ByteArray),.string (⟨#[]⟩ : ByteArray),.int .i64 0,.string (⟨#[]⟩ : ByteArray)]) ?_ 0 _ rfl;refine KU ?_;exact BK102.out) Try.underlying50 rfl (by kernel_rfl)) rfl ?_
 exact ⟨eR,bH⟩
def gen_Ret.f (a0_0 : ByteArray) (a0_1 : ByteArray) (a0_2 : ByteArray) : Option (Int × ByteArray × ByteArray × ByteArray × Int × ByteArray × ByteArray × ByteArray × ByteArray × ByteArray × Int × ByteArray) := some (2, a0_0, a0_1, a0_2, 0, (⟨#[]⟩ : ByteArray), (⟨#[]⟩ : ByteArray), (⟨#[]⟩ : ByteArray), (⟨#[]⟩ : ByteArray), (⟨#[]⟩ : ByteArray), 0, (⟨#[]⟩ : ByteArray))
theorem gen_Ret.calls (a0_0 : ByteArray) (a0_1 : ByteArray) (a0_2 : ByteArray) (r1 : Int) (r2 : ByteArray) (r3 : ByteArray) (r4 : ByteArray) (r5 : Int) (r6 : ByteArray) (r7 : ByteArray) (r8 : ByteArray) (r9 : ByteArray) (r10 : ByteArray) (r11 : Int) (r12 : ByteArray) (w : World) (h : gen_Ret.f a0_0 a0_1 a0_2 = some (r1, r2, r3, r4, r5, r6, r7, r8, r9, r10, r11, r12)) :
    Calls Try.prog 15 #[.agg #[.string a0_0,.string a0_1,.string a0_2]] w fun e w' => e = .returned (.agg #[.int .i64 r1,.string r2,.string r3,.string r4,.int .i64 r5,.string r6,.string r7,.string r8,.string r9,.string r10,.int .i64 r11,.string r12]) ∧ Below w.heap.size w w':=by
 have hu25:=Try.underlying25
 have hu50:=Try.underlying50
 have HB:=aq (Below.refl w.heap.size w)
 have H : (some (2,a0_0,a0_1,a0_2,0,(⟨#[]⟩ : ByteArray),(⟨#[]⟩ : ByteArray),(⟨#[]⟩ : ByteArray),(⟨#[]⟩ : ByteArray),(⟨#[]⟩ : ByteArray),0,(⟨#[]⟩ : ByteArray))) = some (r1,r2,r3,r4,r5,r6,r7,r8,r9,r10,r11,r12):=h
 clear h
 simp only [Option.some.injEq,Prod.mk.injEq] at H
 obtain ⟨rfl,rfl,rfl,rfl,rfl,rfl,rfl,rfl,rfl,rfl,rfl,rfl⟩:=H
 go_enter Try.func15,Try.ntmps15
 go_wp2_with (first|((with_reducible refine gate_dst (N:=1) rfl ?_);refine box_event rfl (N:=1) rfl (cs:=#[.string a0_0,.string a0_1,.string a0_2]) (t:=25) gS ?_;intro gb103 hg w2 hbox hb;have BK103:=aq (hbox);have GE103:=aq ((GN hg : w.heap.size ≤ gb103));replace HB:=aq (below_step bH hb);clear hb hbox hg)|((with_reducible refine gate_dst (N:=2) rfl ?_);refine box_event rfl (N:=2) rfl (cs:=#[.int .i64 0,.string (⟨#[]⟩ : ByteArray),.string (⟨#[]⟩ : ByteArray),.string (⟨#[]⟩ : ByteArray),.int .i64 0,.string (⟨#[]⟩ : ByteArray),.string (⟨#[]⟩ : ByteArray),.string (⟨#[]⟩ : ByteArray),.string (⟨#[]⟩ : ByteArray),.string (⟨#[]⟩ : ByteArray),.int .i64 0,.string (⟨#[]⟩ : ByteArray)]) (t:=50) gS ?_;intro gb104 hg w3 hbox hb;have BK104:=aq (hbox);have GE104:=aq ((GN hg : w.heap.size ≤ gb104));have NB103_104:=aq (NL hg BK103);have NB104_103:=aq (NG hg BK103);replace BK103:=KN BK103 hb;replace HB:=aq (below_step bH hb);clear hb hbox hg;have hnb4:=NB103_104.out;have hnc4:=NB104_103.out;have hcz5_0 : w3.cell? ⟨gb103,0,none⟩ = some (.string a0_0):=(blk_cell BK103.out 0).trans rfl;have hcz5_1 : w3.cell? ⟨gb103,1,none⟩ = some (.string a0_1):=(blk_cell BK103.out 1).trans rfl;have hcz5_2 : w3.cell? ⟨gb103,2,none⟩ = some (.string a0_2):=(blk_cell BK103.out 2).trans rfl;have hfz5_0:=blk_frozen BK103.out 0;have hfz5_1:=blk_frozen BK103.out 1;have hfz5_2:=blk_frozen BK103.out 2;have hcz6_0 : w3.cell? ⟨gb104,0,none⟩ = some (.int .i64 0):=(blk_cell BK104.out 0).trans rfl;have hcz6_1 : w3.cell? ⟨gb104,1,none⟩ = some (.string (⟨#[]⟩ : ByteArray)):=(blk_cell BK104.out 1).trans rfl;have hcz6_2 : w3.cell? ⟨gb104,2,none⟩ = some (.string (⟨#[]⟩ : ByteArray)):=(blk_cell BK104.out 2).trans rfl;have hcz6_3 : w3.cell? ⟨gb104,3,none⟩ = some (.string (⟨#[]⟩ : ByteArray)):=(blk_cell BK104.out 3).trans rfl;have hcz6_4 : w3.cell? ⟨gb104,4,none⟩ = some (.int .i64 0):=(blk_cell BK104.out 4).trans rfl;have hcz6_5 : w3.cell? ⟨gb104,5,none⟩ = some (.string (⟨#[]⟩ : ByteArray)):=(blk_cell BK104.out 5).trans rfl;have hcz6_6 : w3.cell? ⟨gb104,6,none⟩ = some (.string (⟨#[]⟩ : ByteArray)):=(blk_cell BK104.out 6).trans rfl;have hcz6_7 : w3.cell? ⟨gb104,7,none⟩ = some (.string (⟨#[]⟩ : ByteArray)):=(blk_cell BK104.out 7).trans rfl;have hcz6_8 : w3.cell? ⟨gb104,8,none⟩ = some (.string (⟨#[]⟩ : ByteArray)):=(blk_cell BK104.out 8).trans rfl;have hcz6_9 : w3.cell? ⟨gb104,9,none⟩ = some (.string (⟨#[]⟩ : ByteArray)):=(blk_cell BK104.out 9).trans rfl;have hcz6_10 : w3.cell? ⟨gb104,10,none⟩ = some (.int .i64 0):=(blk_cell BK104.out 10).trans rfl;have hcz6_11 : w3.cell? ⟨gb104,11,none⟩ = some (.string (⟨#[]⟩ : ByteArray)):=(blk_cell BK104.out 11).trans rfl;have hfz6_0:=blk_frozen BK104.out 0;have hfz6_1:=blk_frozen BK104.out 1;have hfz6_2:=blk_frozen BK104.out 2;have hfz6_3:=blk_frozen BK104.out 3;have hfz6_4:=blk_frozen BK104.out 4;have hfz6_5:=blk_frozen BK104.out 5;have hfz6_6:=blk_frozen BK104.out 6;have hfz6_7:=blk_frozen BK104.out 7;have hfz6_8:=blk_frozen BK104.out 8;have hfz6_9:=blk_frozen BK104.out 9;have hfz6_10:=blk_frozen BK104.out 10;have hfz6_11:=blk_frozen BK104.out 11))
 refine bodyPost_ret (results_cell_row rfl _ _ gb104 50 #[.int .i64 2,.string a0_0,.string a0_1,.string a0_2,.int .i64 0,.string (⟨#[]⟩ : ByteArray),.string (⟨#[]⟩ : ByteArray),.string (⟨#[]⟩ : ByteArray),.string (⟨#[]⟩ : ByteArray),.string (⟨#[]⟩ : ByteArray),.int .i64 0,.string (⟨#[]⟩ : ByteArray)] (0,0) _ rfl (by refine KU ?_;refine blk_put (cs:=#[.int .i64 2,.string a0_0,.string a0_1,.string a0_2,.int .i64 0,.string (⟨#[]⟩ : ByteArray),.string (⟨#[]⟩ : ByteArray),.string (⟨#[]⟩ : ByteArray),.string (⟨#[]⟩ : ByteArray),.string (⟨#[]⟩ : ByteArray),.int .i64 0,.string (⟨#[]⟩ : ByteArray)]) ?_ 11 _ rfl;refine KU ?_;refine blk_put (cs:=#[.int .i64 2,.string a0_0,.string a0_1,.string a0_2,.int .i64 0,.string (⟨#[]⟩ : ByteArray),.string (⟨#[]⟩ : ByteArray),.string (⟨#[]⟩ : ByteArray),.string (⟨#[]⟩ : ByteArray),.string (⟨#[]⟩ : ByteArray),.int .i64 0,.string (⟨#[]⟩ : ByteArray)]) ?_ 10 _ rfl;refine KU ?_;refine blk_put (cs:=#[.int .i64 2,.string a0_0,.string a0_1,.string a0_2,.int .i64 0,.string (⟨#[]⟩ : ByteArray),.string (⟨#[]⟩ : ByteArray),.string (⟨#[]⟩ : ByteArray),.string (⟨#[]⟩ : ByteArray),.string (⟨#[]⟩ : ByteArray),.int .i64 0,.string (⟨#[]⟩ : ByteArray)]) ?_ 9 _ rfl;refine KU ?_;refine blk_put (cs:=#[.int .i64 2,.string a0_0,.string a0_1,.string a0_2,.int .i64 0,.string (⟨#[]⟩ : ByteArray),.string (⟨#[]⟩ : ByteArray),.string (⟨#[]⟩ : ByteArray),.string (⟨#[]⟩ : ByteArray),.string (⟨#[]⟩ : ByteArray),.int .i64 0,.string (⟨#[]⟩ : ByteArray)]) ?_ 8 _ rfl;refine KU ?_;refine blk_put (cs:=#[.int .i64 2,.string a0_0,.string a0_1,.string a0_2,.int .i64 0,.string (⟨#[]⟩ : ByteArray),.string (⟨#[]⟩ : ByteArray),.string (⟨#[]⟩ : ByteArray),.string (⟨#[]⟩ : ByteArray),.string (⟨#[]⟩ : ByteArray),.int .i64 0,.string (⟨#[]⟩ : ByteArray)]) ?_ 7 _ rfl;refine KU ?_;refine blk_put (cs:=#[.int .i64 2,.string a0_0,.string a0_1,.string a0_2,.int .i64 0,.string (⟨#[]⟩ : ByteArray),.string (⟨#[]⟩ : ByteArray),.string (⟨#[]⟩ : ByteArray),.string (⟨#[]⟩ : ByteArray),.string (⟨#[]⟩ : ByteArray),.int .i64 0,.string (⟨#[]⟩ : ByteArray)]) ?_ 6 _ rfl;refine KU ?_;refine blk_put (cs:=#[.int .i64 2,.string a0_0,.string a0_1,.string a0_2,.int .i64 0,.string (⟨#[]⟩ : ByteArray),.string (⟨#[]⟩ : ByteArray),.string (⟨#[]⟩ : ByteArray),.string (⟨#[]⟩ : ByteArray),.string (⟨#[]⟩ : ByteArray),.int .i64 0,.string (⟨#[]⟩ : ByteArray)]) ?_ 5 _ rfl;refine KU ?_;refine blk_put (cs:=#[.int .i64 2,.string a0_0,.string a0_1,.string a0_2,.int .i64 0,.string (⟨#[]⟩ : ByteArray),.string (⟨#[]⟩ : ByteArray),.string (⟨#[]⟩ : ByteArray),.string (⟨#[]⟩ : ByteArray),.string (⟨#[]⟩ : ByteArray),.int .i64 0,.string (⟨#[]⟩ : ByteArray)]) ?_ 4 _ rfl;refine KU ?_;refine blk_put (cs:=#[.int .i64 2,.string a0_0,.string a0_1,.string (⟨#[]⟩ : ByteArray),.int .i64 0,.string (⟨#[]⟩ : ByteArray),.string (⟨#[]⟩ : ByteArray),.string (⟨#[]⟩ : ByteArray),.string (⟨#[]⟩ : ByteArray),.string (⟨#[]⟩ : ByteArray),.int .i64 0,.string (⟨#[]⟩ : ByteArray)]) ?_ 3 _ rfl;refine KU ?_;refine blk_put (cs:=#[.int .i64 2,.string a0_0,.string (⟨#[]⟩ : ByteArray),.string (⟨#[]⟩ : ByteArray),.int .i64 0,.string (⟨#[]⟩ : ByteArray),.string (⟨#[]⟩ : ByteArray),.string (⟨#[]⟩ : ByteArray),.string (⟨#[]⟩ : ByteArray),.string (⟨#[]⟩ : ByteArray),.int .i64 0,.string (⟨#[]⟩ : ByteArray)]) ?_ 2 _ rfl;refine KU ?_;refine blk_put (cs:=#[.int .i64 2,.string (⟨#[]⟩ : ByteArray),.string (⟨#[]⟩ : ByteArray),.string (⟨#[]⟩ : ByteArray),.int .i64 0,.string (⟨#[]⟩ : ByteArray),.string (⟨#[]⟩ : ByteArray),.string (⟨#[]⟩ : ByteArray),.string (⟨#[]⟩ : ByteArray),.string (⟨#[]⟩ : ByteArray),.int .i64 0,.string (⟨#[]⟩ : ByteArray)]) ?_ 1 _ rfl;refine KU ?_;refine blk_put (cs:=#[.int .i64 0,.string (⟨#[]⟩ : ByteArray),.string (⟨#[]⟩ : ByteArray),.string (⟨#[]⟩ : ByteArray),.int .i64 0,.string (⟨#[]⟩ : ByteArray),.string (⟨#[]⟩ : ByteArray),.string (⟨#[]⟩ : ByteArray),.string (⟨#[]⟩ : ByteArray),.string (⟨#[]⟩ : ByteArray),.int .i64 0,.string (⟨#[]⟩ : ByteArray)]) ?_ 0 _ rfl;refine KU ?_;exact BK104.out) Try.underlying50 rfl (by kernel_rfl)) rfl ?_
 exact ⟨eR,bH⟩
def gen_Static.f (a0_0 : ByteArray) (a0_1 : ByteArray) : Option (Int × ByteArray × ByteArray × ByteArray × Int × ByteArray × ByteArray × ByteArray × ByteArray × ByteArray × Int × ByteArray) := some (3, (⟨#[]⟩ : ByteArray), (⟨#[]⟩ : ByteArray), (⟨#[]⟩ : ByteArray), 0, a0_0, a0_1, (⟨#[]⟩ : ByteArray), (⟨#[]⟩ : ByteArray), (⟨#[]⟩ : ByteArray), 0, (⟨#[]⟩ : ByteArray))
theorem gen_Static.calls (a0_0 : ByteArray) (a0_1 : ByteArray) (r1 : Int) (r2 : ByteArray) (r3 : ByteArray) (r4 : ByteArray) (r5 : Int) (r6 : ByteArray) (r7 : ByteArray) (r8 : ByteArray) (r9 : ByteArray) (r10 : ByteArray) (r11 : Int) (r12 : ByteArray) (w : World) (h : gen_Static.f a0_0 a0_1 = some (r1, r2, r3, r4, r5, r6, r7, r8, r9, r10, r11, r12)) :
    Calls Try.prog 17 #[.agg #[.string a0_0,.string a0_1]] w fun e w' => e = .returned (.agg #[.int .i64 r1,.string r2,.string r3,.string r4,.int .i64 r5,.string r6,.string r7,.string r8,.string r9,.string r10,.int .i64 r11,.string r12]) ∧ Below w.heap.size w w':=by
 have hu44:=Try.underlying44
 have hu50:=Try.underlying50
 have HB:=aq (Below.refl w.heap.size w)
 have H : (some (3,(⟨#[]⟩ : ByteArray),(⟨#[]⟩ : ByteArray),(⟨#[]⟩ : ByteArray),0,a0_0,a0_1,(⟨#[]⟩ : ByteArray),(⟨#[]⟩ : ByteArray),(⟨#[]⟩ : ByteArray),0,(⟨#[]⟩ : ByteArray))) = some (r1,r2,r3,r4,r5,r6,r7,r8,r9,r10,r11,r12):=h
 clear h
 simp only [Option.some.injEq,Prod.mk.injEq] at H
 obtain ⟨rfl,rfl,rfl,rfl,rfl,rfl,rfl,rfl,rfl,rfl,rfl,rfl⟩:=H
 go_enter Try.func17,Try.ntmps17
 go_wp2_with (first|((with_reducible refine gate_dst (N:=1) rfl ?_);refine box_event rfl (N:=1) rfl (cs:=#[.string a0_0,.string a0_1]) (t:=44) gS ?_;intro gb105 hg w2 hbox hb;have BK105:=aq (hbox);have GE105:=aq ((GN hg : w.heap.size ≤ gb105));replace HB:=aq (below_step bH hb);clear hb hbox hg)|((with_reducible refine gate_dst (N:=2) rfl ?_);refine box_event rfl (N:=2) rfl (cs:=#[.int .i64 0,.string (⟨#[]⟩ : ByteArray),.string (⟨#[]⟩ : ByteArray),.string (⟨#[]⟩ : ByteArray),.int .i64 0,.string (⟨#[]⟩ : ByteArray),.string (⟨#[]⟩ : ByteArray),.string (⟨#[]⟩ : ByteArray),.string (⟨#[]⟩ : ByteArray),.string (⟨#[]⟩ : ByteArray),.int .i64 0,.string (⟨#[]⟩ : ByteArray)]) (t:=50) gS ?_;intro gb106 hg w3 hbox hb;have BK106:=aq (hbox);have GE106:=aq ((GN hg : w.heap.size ≤ gb106));have NB105_106:=aq (NL hg BK105);have NB106_105:=aq (NG hg BK105);replace BK105:=KN BK105 hb;replace HB:=aq (below_step bH hb);clear hb hbox hg;have hnb4:=NB105_106.out;have hnc4:=NB106_105.out;have hcz5_0 : w3.cell? ⟨gb105,0,none⟩ = some (.string a0_0):=(blk_cell BK105.out 0).trans rfl;have hcz5_1 : w3.cell? ⟨gb105,1,none⟩ = some (.string a0_1):=(blk_cell BK105.out 1).trans rfl;have hfz5_0:=blk_frozen BK105.out 0;have hfz5_1:=blk_frozen BK105.out 1;have hcz6_0 : w3.cell? ⟨gb106,0,none⟩ = some (.int .i64 0):=(blk_cell BK106.out 0).trans rfl;have hcz6_1 : w3.cell? ⟨gb106,1,none⟩ = some (.string (⟨#[]⟩ : ByteArray)):=(blk_cell BK106.out 1).trans rfl;have hcz6_2 : w3.cell? ⟨gb106,2,none⟩ = some (.string (⟨#[]⟩ : ByteArray)):=(blk_cell BK106.out 2).trans rfl;have hcz6_3 : w3.cell? ⟨gb106,3,none⟩ = some (.string (⟨#[]⟩ : ByteArray)):=(blk_cell BK106.out 3).trans rfl;have hcz6_4 : w3.cell? ⟨gb106,4,none⟩ = some (.int .i64 0):=(blk_cell BK106.out 4).trans rfl;have hcz6_5 : w3.cell? ⟨gb106,5,none⟩ = some (.string (⟨#[]⟩ : ByteArray)):=(blk_cell BK106.out 5).trans rfl;have hcz6_6 : w3.cell? ⟨gb106,6,none⟩ = some (.string (⟨#[]⟩ : ByteArray)):=(blk_cell BK106.out 6).trans rfl;have hcz6_7 : w3.cell? ⟨gb106,7,none⟩ = some (.string (⟨#[]⟩ : ByteArray)):=(blk_cell BK106.out 7).trans rfl;have hcz6_8 : w3.cell? ⟨gb106,8,none⟩ = some (.string (⟨#[]⟩ : ByteArray)):=(blk_cell BK106.out 8).trans rfl;have hcz6_9 : w3.cell? ⟨gb106,9,none⟩ = some (.string (⟨#[]⟩ : ByteArray)):=(blk_cell BK106.out 9).trans rfl;have hcz6_10 : w3.cell? ⟨gb106,10,none⟩ = some (.int .i64 0):=(blk_cell BK106.out 10).trans rfl;have hcz6_11 : w3.cell? ⟨gb106,11,none⟩ = some (.string (⟨#[]⟩ : ByteArray)):=(blk_cell BK106.out 11).trans rfl;have hfz6_0:=blk_frozen BK106.out 0;have hfz6_1:=blk_frozen BK106.out 1;have hfz6_2:=blk_frozen BK106.out 2;have hfz6_3:=blk_frozen BK106.out 3;have hfz6_4:=blk_frozen BK106.out 4;have hfz6_5:=blk_frozen BK106.out 5;have hfz6_6:=blk_frozen BK106.out 6;have hfz6_7:=blk_frozen BK106.out 7;have hfz6_8:=blk_frozen BK106.out 8;have hfz6_9:=blk_frozen BK106.out 9;have hfz6_10:=blk_frozen BK106.out 10;have hfz6_11:=blk_frozen BK106.out 11))
 refine bodyPost_ret (results_cell_row rfl _ _ gb106 50 #[.int .i64 3,.string (⟨#[]⟩ : ByteArray),.string (⟨#[]⟩ : ByteArray),.string (⟨#[]⟩ : ByteArray),.int .i64 0,.string a0_0,.string a0_1,.string (⟨#[]⟩ : ByteArray),.string (⟨#[]⟩ : ByteArray),.string (⟨#[]⟩ : ByteArray),.int .i64 0,.string (⟨#[]⟩ : ByteArray)] (0,0) _ rfl (by refine KU ?_;refine blk_put (cs:=#[.int .i64 3,.string (⟨#[]⟩ : ByteArray),.string (⟨#[]⟩ : ByteArray),.string (⟨#[]⟩ : ByteArray),.int .i64 0,.string a0_0,.string a0_1,.string (⟨#[]⟩ : ByteArray),.string (⟨#[]⟩ : ByteArray),.string (⟨#[]⟩ : ByteArray),.int .i64 0,.string (⟨#[]⟩ : ByteArray)]) ?_ 11 _ rfl;refine KU ?_;refine blk_put (cs:=#[.int .i64 3,.string (⟨#[]⟩ : ByteArray),.string (⟨#[]⟩ : ByteArray),.string (⟨#[]⟩ : ByteArray),.int .i64 0,.string a0_0,.string a0_1,.string (⟨#[]⟩ : ByteArray),.string (⟨#[]⟩ : ByteArray),.string (⟨#[]⟩ : ByteArray),.int .i64 0,.string (⟨#[]⟩ : ByteArray)]) ?_ 10 _ rfl;refine KU ?_;refine blk_put (cs:=#[.int .i64 3,.string (⟨#[]⟩ : ByteArray),.string (⟨#[]⟩ : ByteArray),.string (⟨#[]⟩ : ByteArray),.int .i64 0,.string a0_0,.string a0_1,.string (⟨#[]⟩ : ByteArray),.string (⟨#[]⟩ : ByteArray),.string (⟨#[]⟩ : ByteArray),.int .i64 0,.string (⟨#[]⟩ : ByteArray)]) ?_ 9 _ rfl;refine KU ?_;refine blk_put (cs:=#[.int .i64 3,.string (⟨#[]⟩ : ByteArray),.string (⟨#[]⟩ : ByteArray),.string (⟨#[]⟩ : ByteArray),.int .i64 0,.string a0_0,.string a0_1,.string (⟨#[]⟩ : ByteArray),.string (⟨#[]⟩ : ByteArray),.string (⟨#[]⟩ : ByteArray),.int .i64 0,.string (⟨#[]⟩ : ByteArray)]) ?_ 8 _ rfl;refine KU ?_;refine blk_put (cs:=#[.int .i64 3,.string (⟨#[]⟩ : ByteArray),.string (⟨#[]⟩ : ByteArray),.string (⟨#[]⟩ : ByteArray),.int .i64 0,.string a0_0,.string a0_1,.string (⟨#[]⟩ : ByteArray),.string (⟨#[]⟩ : ByteArray),.string (⟨#[]⟩ : ByteArray),.int .i64 0,.string (⟨#[]⟩ : ByteArray)]) ?_ 7 _ rfl;refine KU ?_;refine blk_put (cs:=#[.int .i64 3,.string (⟨#[]⟩ : ByteArray),.string (⟨#[]⟩ : ByteArray),.string (⟨#[]⟩ : ByteArray),.int .i64 0,.string a0_0,.string (⟨#[]⟩ : ByteArray),.string (⟨#[]⟩ : ByteArray),.string (⟨#[]⟩ : ByteArray),.string (⟨#[]⟩ : ByteArray),.int .i64 0,.string (⟨#[]⟩ : ByteArray)]) ?_ 6 _ rfl;refine KU ?_;refine blk_put (cs:=#[.int .i64 3,.string (⟨#[]⟩ : ByteArray),.string (⟨#[]⟩ : ByteArray),.string (⟨#[]⟩ : ByteArray),.int .i64 0,.string (⟨#[]⟩ : ByteArray),.string (⟨#[]⟩ : ByteArray),.string (⟨#[]⟩ : ByteArray),.string (⟨#[]⟩ : ByteArray),.string (⟨#[]⟩ : ByteArray),.int .i64 0,.string (⟨#[]⟩ : ByteArray)]) ?_ 5 _ rfl;refine KU ?_;refine blk_put (cs:=#[.int .i64 3,.string (⟨#[]⟩ : ByteArray),.string (⟨#[]⟩ : ByteArray),.string (⟨#[]⟩ : ByteArray),.int .i64 0,.string (⟨#[]⟩ : ByteArray),.string (⟨#[]⟩ : ByteArray),.string (⟨#[]⟩ : ByteArray),.string (⟨#[]⟩ : ByteArray),.string (⟨#[]⟩ : ByteArray),.int .i64 0,.string (⟨#[]⟩ : ByteArray)]) ?_ 4 _ rfl;refine KU ?_;refine blk_put (cs:=#[.int .i64 3,.string (⟨#[]⟩ : ByteArray),.string (⟨#[]⟩ : ByteArray),.string (⟨#[]⟩ : ByteArray),.int .i64 0,.string (⟨#[]⟩ : ByteArray),.string (⟨#[]⟩ : ByteArray),.string (⟨#[]⟩ : ByteArray),.string (⟨#[]⟩ : ByteArray),.string (⟨#[]⟩ : ByteArray),.int .i64 0,.string (⟨#[]⟩ : ByteArray)]) ?_ 3 _ rfl;refine KU ?_;refine blk_put (cs:=#[.int .i64 3,.string (⟨#[]⟩ : ByteArray),.string (⟨#[]⟩ : ByteArray),.string (⟨#[]⟩ : ByteArray),.int .i64 0,.string (⟨#[]⟩ : ByteArray),.string (⟨#[]⟩ : ByteArray),.string (⟨#[]⟩ : ByteArray),.string (⟨#[]⟩ : ByteArray),.string (⟨#[]⟩ : ByteArray),.int .i64 0,.string (⟨#[]⟩ : ByteArray)]) ?_ 2 _ rfl;refine KU ?_;refine blk_put (cs:=#[.int .i64 3,.string (⟨#[]⟩ : ByteArray),.string (⟨#[]⟩ : ByteArray),.string (⟨#[]⟩ : ByteArray),.int .i64 0,.string (⟨#[]⟩ : ByteArray),.string (⟨#[]⟩ : ByteArray),.string (⟨#[]⟩ : ByteArray),.string (⟨#[]⟩ : ByteArray),.string (⟨#[]⟩ : ByteArray),.int .i64 0,.string (⟨#[]⟩ : ByteArray)]) ?_ 1 _ rfl;refine KU ?_;refine blk_put (cs:=#[.int .i64 0,.string (⟨#[]⟩ : ByteArray),.string (⟨#[]⟩ : ByteArray),.string (⟨#[]⟩ : ByteArray),.int .i64 0,.string (⟨#[]⟩ : ByteArray),.string (⟨#[]⟩ : ByteArray),.string (⟨#[]⟩ : ByteArray),.string (⟨#[]⟩ : ByteArray),.string (⟨#[]⟩ : ByteArray),.int .i64 0,.string (⟨#[]⟩ : ByteArray)]) ?_ 0 _ rfl;refine KU ?_;exact BK106.out) Try.underlying50 rfl (by kernel_rfl)) rfl ?_
 exact ⟨eR,bH⟩
def gen_Field.f (a0_0 : ByteArray) (a0_1 : ByteArray) (a0_2 : ByteArray) (a0_3 : Int) (a0_4 : ByteArray) (a1_0 : ByteArray) (a1_1 : ByteArray) : Option (Int × ByteArray × ByteArray × ByteArray × Int × ByteArray × ByteArray × ByteArray × ByteArray × ByteArray × Int × ByteArray) := some (4, (⟨#[]⟩ : ByteArray), (⟨#[]⟩ : ByteArray), (⟨#[]⟩ : ByteArray), 0, a1_0, a1_1, a0_0, a0_1, a0_2, a0_3, a0_4)
theorem gen_Field.calls (a0_0 : ByteArray) (a0_1 : ByteArray) (a0_2 : ByteArray) (a0_3 : Int) (a0_4 : ByteArray) (a1_0 : ByteArray) (a1_1 : ByteArray) (r1 : Int) (r2 : ByteArray) (r3 : ByteArray) (r4 : ByteArray) (r5 : Int) (r6 : ByteArray) (r7 : ByteArray) (r8 : ByteArray) (r9 : ByteArray) (r10 : ByteArray) (r11 : Int) (r12 : ByteArray) (w : World) (h : gen_Field.f a0_0 a0_1 a0_2 a0_3 a0_4 a1_0 a1_1 = some (r1, r2, r3, r4, r5, r6, r7, r8, r9, r10, r11, r12)) :
    Calls Try.prog 19 #[.agg #[.string a0_0,.string a0_1,.string a0_2,.int .i64 a0_3,.string a0_4],.agg #[.string a1_0,.string a1_1]] w fun e w' => e = .returned (.agg #[.int .i64 r1,.string r2,.string r3,.string r4,.int .i64 r5,.string r6,.string r7,.string r8,.string r9,.string r10,.int .i64 r11,.string r12]) ∧ Below w.heap.size w w':=by
 have hu46:=Try.underlying46
 have hu44:=Try.underlying44
 have hu50:=Try.underlying50
 have HB:=aq (Below.refl w.heap.size w)
 have H : (some (4,(⟨#[]⟩ : ByteArray),(⟨#[]⟩ : ByteArray),(⟨#[]⟩ : ByteArray),0,a1_0,a1_1,a0_0,a0_1,a0_2,a0_3,a0_4)) = some (r1,r2,r3,r4,r5,r6,r7,r8,r9,r10,r11,r12):=h
 clear h
 simp only [Option.some.injEq,Prod.mk.injEq] at H
 obtain ⟨rfl,rfl,rfl,rfl,rfl,rfl,rfl,rfl,rfl,rfl,rfl,rfl⟩:=H
 go_enter Try.func19,Try.ntmps19
 go_wp2_with (first|((with_reducible refine gate_dst (N:=2) rfl ?_);refine box_event rfl (N:=2) rfl (cs:=#[.string a0_0,.string a0_1,.string a0_2,.int .i64 a0_3,.string a0_4]) (t:=46) gS ?_;intro gb107 hg w3 hbox hb;have BK107:=aq (hbox);have GE107:=aq ((GN hg : w.heap.size ≤ gb107));replace HB:=aq (below_step bH hb);clear hb hbox hg)|((with_reducible refine gate_dst (N:=3) rfl ?_);refine box_event rfl (N:=3) rfl (cs:=#[.string a1_0,.string a1_1]) (t:=44) gS ?_;intro gb108 hg w4 hbox hb;have BK108:=aq (hbox);have GE108:=aq ((GN hg : w.heap.size ≤ gb108));have NB107_108:=aq (NL hg BK107);have NB108_107:=aq (NG hg BK107);replace BK107:=KN BK107 hb;replace HB:=aq (below_step bH hb);clear hb hbox hg)|((with_reducible refine gate_dst (N:=4) rfl ?_);refine box_event rfl (N:=4) rfl (cs:=#[.int .i64 0,.string (⟨#[]⟩ : ByteArray),.string (⟨#[]⟩ : ByteArray),.string (⟨#[]⟩ : ByteArray),.int .i64 0,.string (⟨#[]⟩ : ByteArray),.string (⟨#[]⟩ : ByteArray),.string (⟨#[]⟩ : ByteArray),.string (⟨#[]⟩ : ByteArray),.string (⟨#[]⟩ : ByteArray),.int .i64 0,.string (⟨#[]⟩ : ByteArray)]) (t:=50) gS ?_;intro gb109 hg w5 hbox hb;have BK109:=aq (hbox);have GE109:=aq ((GN hg : w.heap.size ≤ gb109));have NB107_109:=aq (NL hg BK107);have NB109_107:=aq (NG hg BK107);have NB108_109:=aq (NL hg BK108);have NB109_108:=aq (NG hg BK108);replace BK107:=KN BK107 hb;replace BK108:=KN BK108 hb;replace HB:=aq (below_step bH hb);clear hb hbox hg;have hnb6:=NB108_107.out;have hnc6:=NB107_108.out;have hnb7:=NB108_109.out;have hnc7:=NB109_108.out;have hcz8_0 : w5.cell? ⟨gb108,0,none⟩ = some (.string a1_0):=(blk_cell BK108.out 0).trans rfl;have hcz8_1 : w5.cell? ⟨gb108,1,none⟩ = some (.string a1_1):=(blk_cell BK108.out 1).trans rfl;have hfz8_0:=blk_frozen BK108.out 0;have hfz8_1:=blk_frozen BK108.out 1;have hnb9:=NB107_109.out;have hnc9:=NB109_107.out;have hcz10_0 : w5.cell? ⟨gb107,0,none⟩ = some (.string a0_0):=(blk_cell BK107.out 0).trans rfl;have hcz10_1 : w5.cell? ⟨gb107,1,none⟩ = some (.string a0_1):=(blk_cell BK107.out 1).trans rfl;have hcz10_2 : w5.cell? ⟨gb107,2,none⟩ = some (.string a0_2):=(blk_cell BK107.out 2).trans rfl;have hcz10_3 : w5.cell? ⟨gb107,3,none⟩ = some (.int .i64 a0_3):=(blk_cell BK107.out 3).trans rfl;have hcz10_4 : w5.cell? ⟨gb107,4,none⟩ = some (.string a0_4):=(blk_cell BK107.out 4).trans rfl;have hfz10_0:=blk_frozen BK107.out 0;have hfz10_1:=blk_frozen BK107.out 1;have hfz10_2:=blk_frozen BK107.out 2;have hfz10_3:=blk_frozen BK107.out 3;have hfz10_4:=blk_frozen BK107.out 4;have hcz11_0 : w5.cell? ⟨gb109,0,none⟩ = some (.int .i64 0):=(blk_cell BK109.out 0).trans rfl;have hcz11_1 : w5.cell? ⟨gb109,1,none⟩ = some (.string (⟨#[]⟩ : ByteArray)):=(blk_cell BK109.out 1).trans rfl;have hcz11_2 : w5.cell? ⟨gb109,2,none⟩ = some (.string (⟨#[]⟩ : ByteArray)):=(blk_cell BK109.out 2).trans rfl;have hcz11_3 : w5.cell? ⟨gb109,3,none⟩ = some (.string (⟨#[]⟩ : ByteArray)):=(blk_cell BK109.out 3).trans rfl;have hcz11_4 : w5.cell? ⟨gb109,4,none⟩ = some (.int .i64 0):=(blk_cell BK109.out 4).trans rfl;have hcz11_5 : w5.cell? ⟨gb109,5,none⟩ = some (.string (⟨#[]⟩ : ByteArray)):=(blk_cell BK109.out 5).trans rfl;have hcz11_6 : w5.cell? ⟨gb109,6,none⟩ = some (.string (⟨#[]⟩ : ByteArray)):=(blk_cell BK109.out 6).trans rfl;have hcz11_7 : w5.cell? ⟨gb109,7,none⟩ = some (.string (⟨#[]⟩ : ByteArray)):=(blk_cell BK109.out 7).trans rfl;have hcz11_8 : w5.cell? ⟨gb109,8,none⟩ = some (.string (⟨#[]⟩ : ByteArray)):=(blk_cell BK109.out 8).trans rfl;have hcz11_9 : w5.cell? ⟨gb109,9,none⟩ = some (.string (⟨#[]⟩ : ByteArray)):=(blk_cell BK109.out 9).trans rfl;have hcz11_10 : w5.cell? ⟨gb109,10,none⟩ = some (.int .i64 0):=(blk_cell BK109.out 10).trans rfl;have hcz11_11 : w5.cell? ⟨gb109,11,none⟩ = some (.string (⟨#[]⟩ : ByteArray)):=(blk_cell BK109.out 11).trans rfl;have hfz11_0:=blk_frozen BK109.out 0;have hfz11_1:=blk_frozen BK109.out 1;have hfz11_2:=blk_frozen BK109.out 2;have hfz11_3:=blk_frozen BK109.out 3;have hfz11_4:=blk_frozen BK109.out 4;have hfz11_5:=blk_frozen BK109.out 5;have hfz11_6:=blk_frozen BK109.out 6;have hfz11_7:=blk_frozen BK109.out 7;have hfz11_8:=blk_frozen BK109.out 8;have hfz11_9:=blk_frozen BK109.out 9;have hfz11_10:=blk_frozen BK109.out 10;have hfz11_11:=blk_frozen BK109.out 11))
 refine bodyPost_ret (results_cell_row rfl _ _ gb109 50 #[.int .i64 4,.string (⟨#[]⟩ : ByteArray),.string (⟨#[]⟩ : ByteArray),.string (⟨#[]⟩ : ByteArray),.int .i64 0,.string a1_0,.string a1_1,.string a0_0,.string a0_1,.string a0_2,.int .i64 a0_3,.string a0_4] (0,0) _ rfl (by refine KU ?_;refine blk_put (cs:=#[.int .i64 4,.string (⟨#[]⟩ : ByteArray),.string (⟨#[]⟩ : ByteArray),.string (⟨#[]⟩ : ByteArray),.int .i64 0,.string a1_0,.string a1_1,.string a0_0,.string a0_1,.string a0_2,.int .i64 a0_3,.string (⟨#[]⟩ : ByteArray)]) ?_ 11 _ rfl;refine KU ?_;refine blk_put (cs:=#[.int .i64 4,.string (⟨#[]⟩ : ByteArray),.string (⟨#[]⟩ : ByteArray),.string (⟨#[]⟩ : ByteArray),.int .i64 0,.string a1_0,.string a1_1,.string a0_0,.string a0_1,.string a0_2,.int .i64 0,.string (⟨#[]⟩ : ByteArray)]) ?_ 10 _ rfl;refine KU ?_;refine blk_put (cs:=#[.int .i64 4,.string (⟨#[]⟩ : ByteArray),.string (⟨#[]⟩ : ByteArray),.string (⟨#[]⟩ : ByteArray),.int .i64 0,.string a1_0,.string a1_1,.string a0_0,.string a0_1,.string (⟨#[]⟩ : ByteArray),.int .i64 0,.string (⟨#[]⟩ : ByteArray)]) ?_ 9 _ rfl;refine KU ?_;refine blk_put (cs:=#[.int .i64 4,.string (⟨#[]⟩ : ByteArray),.string (⟨#[]⟩ : ByteArray),.string (⟨#[]⟩ : ByteArray),.int .i64 0,.string a1_0,.string a1_1,.string a0_0,.string (⟨#[]⟩ : ByteArray),.string (⟨#[]⟩ : ByteArray),.int .i64 0,.string (⟨#[]⟩ : ByteArray)]) ?_ 8 _ rfl;refine KU ?_;refine blk_put (cs:=#[.int .i64 4,.string (⟨#[]⟩ : ByteArray),.string (⟨#[]⟩ : ByteArray),.string (⟨#[]⟩ : ByteArray),.int .i64 0,.string a1_0,.string a1_1,.string (⟨#[]⟩ : ByteArray),.string (⟨#[]⟩ : ByteArray),.string (⟨#[]⟩ : ByteArray),.int .i64 0,.string (⟨#[]⟩ : ByteArray)]) ?_ 7 _ rfl;refine KU ?_;refine blk_put (cs:=#[.int .i64 4,.string (⟨#[]⟩ : ByteArray),.string (⟨#[]⟩ : ByteArray),.string (⟨#[]⟩ : ByteArray),.int .i64 0,.string a1_0,.string (⟨#[]⟩ : ByteArray),.string (⟨#[]⟩ : ByteArray),.string (⟨#[]⟩ : ByteArray),.string (⟨#[]⟩ : ByteArray),.int .i64 0,.string (⟨#[]⟩ : ByteArray)]) ?_ 6 _ rfl;refine KU ?_;refine blk_put (cs:=#[.int .i64 4,.string (⟨#[]⟩ : ByteArray),.string (⟨#[]⟩ : ByteArray),.string (⟨#[]⟩ : ByteArray),.int .i64 0,.string (⟨#[]⟩ : ByteArray),.string (⟨#[]⟩ : ByteArray),.string (⟨#[]⟩ : ByteArray),.string (⟨#[]⟩ : ByteArray),.string (⟨#[]⟩ : ByteArray),.int .i64 0,.string (⟨#[]⟩ : ByteArray)]) ?_ 5 _ rfl;refine KU ?_;refine blk_put (cs:=#[.int .i64 4,.string (⟨#[]⟩ : ByteArray),.string (⟨#[]⟩ : ByteArray),.string (⟨#[]⟩ : ByteArray),.int .i64 0,.string (⟨#[]⟩ : ByteArray),.string (⟨#[]⟩ : ByteArray),.string (⟨#[]⟩ : ByteArray),.string (⟨#[]⟩ : ByteArray),.string (⟨#[]⟩ : ByteArray),.int .i64 0,.string (⟨#[]⟩ : ByteArray)]) ?_ 4 _ rfl;refine KU ?_;refine blk_put (cs:=#[.int .i64 4,.string (⟨#[]⟩ : ByteArray),.string (⟨#[]⟩ : ByteArray),.string (⟨#[]⟩ : ByteArray),.int .i64 0,.string (⟨#[]⟩ : ByteArray),.string (⟨#[]⟩ : ByteArray),.string (⟨#[]⟩ : ByteArray),.string (⟨#[]⟩ : ByteArray),.string (⟨#[]⟩ : ByteArray),.int .i64 0,.string (⟨#[]⟩ : ByteArray)]) ?_ 3 _ rfl;refine KU ?_;refine blk_put (cs:=#[.int .i64 4,.string (⟨#[]⟩ : ByteArray),.string (⟨#[]⟩ : ByteArray),.string (⟨#[]⟩ : ByteArray),.int .i64 0,.string (⟨#[]⟩ : ByteArray),.string (⟨#[]⟩ : ByteArray),.string (⟨#[]⟩ : ByteArray),.string (⟨#[]⟩ : ByteArray),.string (⟨#[]⟩ : ByteArray),.int .i64 0,.string (⟨#[]⟩ : ByteArray)]) ?_ 2 _ rfl;refine KU ?_;refine blk_put (cs:=#[.int .i64 4,.string (⟨#[]⟩ : ByteArray),.string (⟨#[]⟩ : ByteArray),.string (⟨#[]⟩ : ByteArray),.int .i64 0,.string (⟨#[]⟩ : ByteArray),.string (⟨#[]⟩ : ByteArray),.string (⟨#[]⟩ : ByteArray),.string (⟨#[]⟩ : ByteArray),.string (⟨#[]⟩ : ByteArray),.int .i64 0,.string (⟨#[]⟩ : ByteArray)]) ?_ 1 _ rfl;refine KU ?_;refine blk_put (cs:=#[.int .i64 0,.string (⟨#[]⟩ : ByteArray),.string (⟨#[]⟩ : ByteArray),.string (⟨#[]⟩ : ByteArray),.int .i64 0,.string (⟨#[]⟩ : ByteArray),.string (⟨#[]⟩ : ByteArray),.string (⟨#[]⟩ : ByteArray),.string (⟨#[]⟩ : ByteArray),.string (⟨#[]⟩ : ByteArray),.int .i64 0,.string (⟨#[]⟩ : ByteArray)]) ?_ 0 _ rfl;refine KU ?_;exact BK109.out) Try.underlying50 rfl (by kernel_rfl)) rfl ?_
 exact ⟨eR,bH⟩
def gen_Element.f (a0_0 : ByteArray) (a0_1 : ByteArray) (a0_2 : ByteArray) (a0_3 : Int) (a0_4 : ByteArray) : Option (Int × ByteArray × ByteArray × ByteArray × Int × ByteArray × ByteArray × ByteArray × ByteArray × ByteArray × Int × ByteArray) := some (5, (⟨#[]⟩ : ByteArray), (⟨#[]⟩ : ByteArray), (⟨#[]⟩ : ByteArray), 0, (⟨#[]⟩ : ByteArray), (⟨#[]⟩ : ByteArray), a0_0, a0_1, a0_2, a0_3, a0_4)
theorem gen_Element.calls (a0_0 : ByteArray) (a0_1 : ByteArray) (a0_2 : ByteArray) (a0_3 : Int) (a0_4 : ByteArray) (r1 : Int) (r2 : ByteArray) (r3 : ByteArray) (r4 : ByteArray) (r5 : Int) (r6 : ByteArray) (r7 : ByteArray) (r8 : ByteArray) (r9 : ByteArray) (r10 : ByteArray) (r11 : Int) (r12 : ByteArray) (w : World) (h : gen_Element.f a0_0 a0_1 a0_2 a0_3 a0_4 = some (r1, r2, r3, r4, r5, r6, r7, r8, r9, r10, r11, r12)) :
    Calls Try.prog 21 #[.agg #[.string a0_0,.string a0_1,.string a0_2,.int .i64 a0_3,.string a0_4]] w fun e w' => e = .returned (.agg #[.int .i64 r1,.string r2,.string r3,.string r4,.int .i64 r5,.string r6,.string r7,.string r8,.string r9,.string r10,.int .i64 r11,.string r12]) ∧ Below w.heap.size w w':=by
 have hu46:=Try.underlying46
 have hu50:=Try.underlying50
 have HB:=aq (Below.refl w.heap.size w)
 have H : (some (5,(⟨#[]⟩ : ByteArray),(⟨#[]⟩ : ByteArray),(⟨#[]⟩ : ByteArray),0,(⟨#[]⟩ : ByteArray),(⟨#[]⟩ : ByteArray),a0_0,a0_1,a0_2,a0_3,a0_4)) = some (r1,r2,r3,r4,r5,r6,r7,r8,r9,r10,r11,r12):=h
 clear h
 simp only [Option.some.injEq,Prod.mk.injEq] at H
 obtain ⟨rfl,rfl,rfl,rfl,rfl,rfl,rfl,rfl,rfl,rfl,rfl,rfl⟩:=H
 go_enter Try.func21,Try.ntmps21
 go_wp2_with (first|((with_reducible refine gate_dst (N:=1) rfl ?_);refine box_event rfl (N:=1) rfl (cs:=#[.string a0_0,.string a0_1,.string a0_2,.int .i64 a0_3,.string a0_4]) (t:=46) gS ?_;intro gb110 hg w2 hbox hb;have BK110:=aq (hbox);have GE110:=aq ((GN hg : w.heap.size ≤ gb110));replace HB:=aq (below_step bH hb);clear hb hbox hg)|((with_reducible refine gate_dst (N:=2) rfl ?_);refine box_event rfl (N:=2) rfl (cs:=#[.int .i64 0,.string (⟨#[]⟩ : ByteArray),.string (⟨#[]⟩ : ByteArray),.string (⟨#[]⟩ : ByteArray),.int .i64 0,.string (⟨#[]⟩ : ByteArray),.string (⟨#[]⟩ : ByteArray),.string (⟨#[]⟩ : ByteArray),.string (⟨#[]⟩ : ByteArray),.string (⟨#[]⟩ : ByteArray),.int .i64 0,.string (⟨#[]⟩ : ByteArray)]) (t:=50) gS ?_;intro gb111 hg w3 hbox hb;have BK111:=aq (hbox);have GE111:=aq ((GN hg : w.heap.size ≤ gb111));have NB110_111:=aq (NL hg BK110);have NB111_110:=aq (NG hg BK110);replace BK110:=KN BK110 hb;replace HB:=aq (below_step bH hb);clear hb hbox hg;have hnb4:=NB110_111.out;have hnc4:=NB111_110.out;have hcz5_0 : w3.cell? ⟨gb110,0,none⟩ = some (.string a0_0):=(blk_cell BK110.out 0).trans rfl;have hcz5_1 : w3.cell? ⟨gb110,1,none⟩ = some (.string a0_1):=(blk_cell BK110.out 1).trans rfl;have hcz5_2 : w3.cell? ⟨gb110,2,none⟩ = some (.string a0_2):=(blk_cell BK110.out 2).trans rfl;have hcz5_3 : w3.cell? ⟨gb110,3,none⟩ = some (.int .i64 a0_3):=(blk_cell BK110.out 3).trans rfl;have hcz5_4 : w3.cell? ⟨gb110,4,none⟩ = some (.string a0_4):=(blk_cell BK110.out 4).trans rfl;have hfz5_0:=blk_frozen BK110.out 0;have hfz5_1:=blk_frozen BK110.out 1;have hfz5_2:=blk_frozen BK110.out 2;have hfz5_3:=blk_frozen BK110.out 3;have hfz5_4:=blk_frozen BK110.out 4;have hcz6_0 : w3.cell? ⟨gb111,0,none⟩ = some (.int .i64 0):=(blk_cell BK111.out 0).trans rfl;have hcz6_1 : w3.cell? ⟨gb111,1,none⟩ = some (.string (⟨#[]⟩ : ByteArray)):=(blk_cell BK111.out 1).trans rfl;have hcz6_2 : w3.cell? ⟨gb111,2,none⟩ = some (.string (⟨#[]⟩ : ByteArray)):=(blk_cell BK111.out 2).trans rfl;have hcz6_3 : w3.cell? ⟨gb111,3,none⟩ = some (.string (⟨#[]⟩ : ByteArray)):=(blk_cell BK111.out 3).trans rfl;have hcz6_4 : w3.cell? ⟨gb111,4,none⟩ = some (.int .i64 0):=(blk_cell BK111.out 4).trans rfl;have hcz6_5 : w3.cell? ⟨gb111,5,none⟩ = some (.string (⟨#[]⟩ : ByteArray)):=(blk_cell BK111.out 5).trans rfl;have hcz6_6 : w3.cell? ⟨gb111,6,none⟩ = some (.string (⟨#[]⟩ : ByteArray)):=(blk_cell BK111.out 6).trans rfl;have hcz6_7 : w3.cell? ⟨gb111,7,none⟩ = some (.string (⟨#[]⟩ : ByteArray)):=(blk_cell BK111.out 7).trans rfl;have hcz6_8 : w3.cell? ⟨gb111,8,none⟩ = some (.string (⟨#[]⟩ : ByteArray)):=(blk_cell BK111.out 8).trans rfl;have hcz6_9 : w3.cell? ⟨gb111,9,none⟩ = some (.string (⟨#[]⟩ : ByteArray)):=(blk_cell BK111.out 9).trans rfl;have hcz6_10 : w3.cell? ⟨gb111,10,none⟩ = some (.int .i64 0):=(blk_cell BK111.out 10).trans rfl;have hcz6_11 : w3.cell? ⟨gb111,11,none⟩ = some (.string (⟨#[]⟩ : ByteArray)):=(blk_cell BK111.out 11).trans rfl;have hfz6_0:=blk_frozen BK111.out 0;have hfz6_1:=blk_frozen BK111.out 1;have hfz6_2:=blk_frozen BK111.out 2;have hfz6_3:=blk_frozen BK111.out 3;have hfz6_4:=blk_frozen BK111.out 4;have hfz6_5:=blk_frozen BK111.out 5;have hfz6_6:=blk_frozen BK111.out 6;have hfz6_7:=blk_frozen BK111.out 7;have hfz6_8:=blk_frozen BK111.out 8;have hfz6_9:=blk_frozen BK111.out 9;have hfz6_10:=blk_frozen BK111.out 10;have hfz6_11:=blk_frozen BK111.out 11))
 refine bodyPost_ret (results_cell_row rfl _ _ gb111 50 #[.int .i64 5,.string (⟨#[]⟩ : ByteArray),.string (⟨#[]⟩ : ByteArray),.string (⟨#[]⟩ : ByteArray),.int .i64 0,.string (⟨#[]⟩ : ByteArray),.string (⟨#[]⟩ : ByteArray),.string a0_0,.string a0_1,.string a0_2,.int .i64 a0_3,.string a0_4] (0,0) _ rfl (by refine KU ?_;refine blk_put (cs:=#[.int .i64 5,.string (⟨#[]⟩ : ByteArray),.string (⟨#[]⟩ : ByteArray),.string (⟨#[]⟩ : ByteArray),.int .i64 0,.string (⟨#[]⟩ : ByteArray),.string (⟨#[]⟩ : ByteArray),.string a0_0,.string a0_1,.string a0_2,.int .i64 a0_3,.string (⟨#[]⟩ : ByteArray)]) ?_ 11 _ rfl;refine KU ?_;refine blk_put (cs:=#[.int .i64 5,.string (⟨#[]⟩ : ByteArray),.string (⟨#[]⟩ : ByteArray),.string (⟨#[]⟩ : ByteArray),.int .i64 0,.string (⟨#[]⟩ : ByteArray),.string (⟨#[]⟩ : ByteArray),.string a0_0,.string a0_1,.string a0_2,.int .i64 0,.string (⟨#[]⟩ : ByteArray)]) ?_ 10 _ rfl;refine KU ?_;refine blk_put (cs:=#[.int .i64 5,.string (⟨#[]⟩ : ByteArray),.string (⟨#[]⟩ : ByteArray),.string (⟨#[]⟩ : ByteArray),.int .i64 0,.string (⟨#[]⟩ : ByteArray),.string (⟨#[]⟩ : ByteArray),.string a0_0,.string a0_1,.string (⟨#[]⟩ : ByteArray),.int .i64 0,.string (⟨#[]⟩ : ByteArray)]) ?_ 9 _ rfl;refine KU ?_;refine blk_put (cs:=#[.int .i64 5,.string (⟨#[]⟩ : ByteArray),.string (⟨#[]⟩ : ByteArray),.string (⟨#[]⟩ : ByteArray),.int .i64 0,.string (⟨#[]⟩ : ByteArray),.string (⟨#[]⟩ : ByteArray),.string a0_0,.string (⟨#[]⟩ : ByteArray),.string (⟨#[]⟩ : ByteArray),.int .i64 0,.string (⟨#[]⟩ : ByteArray)]) ?_ 8 _ rfl;refine KU ?_;refine blk_put (cs:=#[.int .i64 5,.string (⟨#[]⟩ : ByteArray),.string (⟨#[]⟩ : ByteArray),.string (⟨#[]⟩ : ByteArray),.int .i64 0,.string (⟨#[]⟩ : ByteArray),.string (⟨#[]⟩ : ByteArray),.string (⟨#[]⟩ : ByteArray),.string (⟨#[]⟩ : ByteArray),.string (⟨#[]⟩ : ByteArray),.int .i64 0,.string (⟨#[]⟩ : ByteArray)]) ?_ 7 _ rfl;refine KU ?_;refine blk_put (cs:=#[.int .i64 5,.string (⟨#[]⟩ : ByteArray),.string (⟨#[]⟩ : ByteArray),.string (⟨#[]⟩ : ByteArray),.int .i64 0,.string (⟨#[]⟩ : ByteArray),.string (⟨#[]⟩ : ByteArray),.string (⟨#[]⟩ : ByteArray),.string (⟨#[]⟩ : ByteArray),.string (⟨#[]⟩ : ByteArray),.int .i64 0,.string (⟨#[]⟩ : ByteArray)]) ?_ 6 _ rfl;refine KU ?_;refine blk_put (cs:=#[.int .i64 5,.string (⟨#[]⟩ : ByteArray),.string (⟨#[]⟩ : ByteArray),.string (⟨#[]⟩ : ByteArray),.int .i64 0,.string (⟨#[]⟩ : ByteArray),.string (⟨#[]⟩ : ByteArray),.string (⟨#[]⟩ : ByteArray),.string (⟨#[]⟩ : ByteArray),.string (⟨#[]⟩ : ByteArray),.int .i64 0,.string (⟨#[]⟩ : ByteArray)]) ?_ 5 _ rfl;refine KU ?_;refine blk_put (cs:=#[.int .i64 5,.string (⟨#[]⟩ : ByteArray),.string (⟨#[]⟩ : ByteArray),.string (⟨#[]⟩ : ByteArray),.int .i64 0,.string (⟨#[]⟩ : ByteArray),.string (⟨#[]⟩ : ByteArray),.string (⟨#[]⟩ : ByteArray),.string (⟨#[]⟩ : ByteArray),.string (⟨#[]⟩ : ByteArray),.int .i64 0,.string (⟨#[]⟩ : ByteArray)]) ?_ 4 _ rfl;refine KU ?_;refine blk_put (cs:=#[.int .i64 5,.string (⟨#[]⟩ : ByteArray),.string (⟨#[]⟩ : ByteArray),.string (⟨#[]⟩ : ByteArray),.int .i64 0,.string (⟨#[]⟩ : ByteArray),.string (⟨#[]⟩ : ByteArray),.string (⟨#[]⟩ : ByteArray),.string (⟨#[]⟩ : ByteArray),.string (⟨#[]⟩ : ByteArray),.int .i64 0,.string (⟨#[]⟩ : ByteArray)]) ?_ 3 _ rfl;refine KU ?_;refine blk_put (cs:=#[.int .i64 5,.string (⟨#[]⟩ : ByteArray),.string (⟨#[]⟩ : ByteArray),.string (⟨#[]⟩ : ByteArray),.int .i64 0,.string (⟨#[]⟩ : ByteArray),.string (⟨#[]⟩ : ByteArray),.string (⟨#[]⟩ : ByteArray),.string (⟨#[]⟩ : ByteArray),.string (⟨#[]⟩ : ByteArray),.int .i64 0,.string (⟨#[]⟩ : ByteArray)]) ?_ 2 _ rfl;refine KU ?_;refine blk_put (cs:=#[.int .i64 5,.string (⟨#[]⟩ : ByteArray),.string (⟨#[]⟩ : ByteArray),.string (⟨#[]⟩ : ByteArray),.int .i64 0,.string (⟨#[]⟩ : ByteArray),.string (⟨#[]⟩ : ByteArray),.string (⟨#[]⟩ : ByteArray),.string (⟨#[]⟩ : ByteArray),.string (⟨#[]⟩ : ByteArray),.int .i64 0,.string (⟨#[]⟩ : ByteArray)]) ?_ 1 _ rfl;refine KU ?_;refine blk_put (cs:=#[.int .i64 0,.string (⟨#[]⟩ : ByteArray),.string (⟨#[]⟩ : ByteArray),.string (⟨#[]⟩ : ByteArray),.int .i64 0,.string (⟨#[]⟩ : ByteArray),.string (⟨#[]⟩ : ByteArray),.string (⟨#[]⟩ : ByteArray),.string (⟨#[]⟩ : ByteArray),.string (⟨#[]⟩ : ByteArray),.int .i64 0,.string (⟨#[]⟩ : ByteArray)]) ?_ 0 _ rfl;refine KU ?_;exact BK111.out) Try.underlying50 rfl (by kernel_rfl)) rfl ?_
 exact ⟨eR,bH⟩
end Go.Proofs.Ytfplcohjnlbfjaa.Q43
end

section
namespace Go.Proofs.Ytfplcohjnlbfjaa.Q43
open Go.RowKit Go.Proofs.YtfplcohjnlbfjaaW
open PrintWords PrintLast PrintMore
attribute [local go_sem] max2_int min2_int max_two min_two max_three min_three max_four min_four
end Go.Proofs.Ytfplcohjnlbfjaa.Q43
end

section
namespace Go.Proofs.Ytfplcohjnlbfjaa.Hand
open Go.RowKit Go.Proofs.YtfplcohjnlbfjaaW
open PrintWords PrintLast PrintMore
theorem set12_own {w : World} {R : Nat} {t : TypeId} {u0 u1 u2 u3 u4 u5 u6 u7 u8 u9 u10 u11 : Value} (h : w.heap[R]? = some (Obj.cells #[u0, u1, u2, u3, u4, u5, u6, u7, u8, u9, u10, u11] t (0, 0))) (v0 v1 v2 v3 v4 v5 v6 v7 v8 v9 v10 v11 : Value) : ((((((((((((w.setCell ⟨R, 0, none⟩ (v0)).setCell ⟨R, 1, none⟩ (v1)).setCell ⟨R, 2, none⟩ (v2)).setCell ⟨R, 3, none⟩ (v3)).setCell ⟨R, 4, none⟩ (v4)).setCell ⟨R, 5, none⟩ (v5)).setCell ⟨R, 6, none⟩ (v6)).setCell ⟨R, 7, none⟩ (v7)).setCell ⟨R, 8, none⟩ (v8)).setCell ⟨R, 9, none⟩ (v9)).setCell ⟨R, 10, none⟩ (v10)).setCell ⟨R, 11, none⟩ (v11)).heap[R]? = some (Obj.cells #[v0, v1, v2, v3, v4, v5, v6, v7, v8, v9, v10, v11] t (0, 0)) := (blk_put (cs := #[v0, v1, v2, v3, v4, v5, v6, v7, v8, v9, v10, u11]) (blk_put (cs := #[v0, v1, v2, v3, v4, v5, v6, v7, v8, v9, u10, u11]) (blk_put (cs := #[v0, v1, v2, v3, v4, v5, v6, v7, v8, u9, u10, u11]) (blk_put (cs := #[v0, v1, v2, v3, v4, v5, v6, v7, u8, u9, u10, u11]) (blk_put (cs := #[v0, v1, v2, v3, v4, v5, v6, u7, u8, u9, u10, u11]) (blk_put (cs := #[v0, v1, v2, v3, v4, v5, u6, u7, u8, u9, u10, u11]) (blk_put (cs := #[v0, v1, v2, v3, v4, u5, u6, u7, u8, u9, u10, u11]) (blk_put (cs := #[v0, v1, v2, v3, u4, u5, u6, u7, u8, u9, u10, u11]) (blk_put (cs := #[v0, v1, v2, u3, u4, u5, u6, u7, u8, u9, u10, u11]) (blk_put (cs := #[v0, v1, u2, u3, u4, u5, u6, u7, u8, u9, u10, u11]) (blk_put (cs := #[v0, u1, u2, u3, u4, u5, u6, u7, u8, u9, u10, u11]) (blk_put (cs := #[u0, u1, u2, u3, u4, u5, u6, u7, u8, u9, u10, u11]) h 0 (v0) rfl) 1 (v1) rfl) 2 (v2) rfl) 3 (v3) rfl) 4 (v4) rfl) 5 (v5) rfl) 6 (v6) rfl) 7 (v7) rfl) 8 (v8) rfl) 9 (v9) rfl) 10 (v10) rfl) 11 (v11) rfl)
theorem set12_below {n : Nat} {w0 w : World} {R : Nat} (h : Below n w0 w) (hR : n ≤ R) (v0 v1 v2 v3 v4 v5 v6 v7 v8 v9 v10 v11 : Value) : Below n w0 ((((((((((((w.setCell ⟨R, 0, none⟩ (v0)).setCell ⟨R, 1, none⟩ (v1)).setCell ⟨R, 2, none⟩ (v2)).setCell ⟨R, 3, none⟩ (v3)).setCell ⟨R, 4, none⟩ (v4)).setCell ⟨R, 5, none⟩ (v5)).setCell ⟨R, 6, none⟩ (v6)).setCell ⟨R, 7, none⟩ (v7)).setCell ⟨R, 8, none⟩ (v8)).setCell ⟨R, 9, none⟩ (v9)).setCell ⟨R, 10, none⟩ (v10)).setCell ⟨R, 11, none⟩ (v11)) := ((((((((((((h.setCell hR _).setCell hR _).setCell hR _).setCell hR _).setCell hR _).setCell hR _).setCell hR _).setCell hR _).setCell hR _).setCell hR _).setCell hR _).setCell hR _)
theorem cells12 {w : World} {g : Nat} {t : TypeId} {u0 u1 u2 u3 u4 u5 u6 u7 u8 u9 u10 u11 : Value} (h : w.heap[g]? = some (Obj.cells #[u0, u1, u2, u3, u4, u5, u6, u7, u8, u9, u10, u11] t (0, 0))) : w.cell? ⟨g, 0, none⟩ = some u0 ∧ w.cell? ⟨g, 1, none⟩ = some u1 ∧ w.cell? ⟨g, 2, none⟩ = some u2 ∧ w.cell? ⟨g, 3, none⟩ = some u3 ∧ w.cell? ⟨g, 4, none⟩ = some u4 ∧ w.cell? ⟨g, 5, none⟩ = some u5 ∧ w.cell? ⟨g, 6, none⟩ = some u6 ∧ w.cell? ⟨g, 7, none⟩ = some u7 ∧ w.cell? ⟨g, 8, none⟩ = some u8 ∧ w.cell? ⟨g, 9, none⟩ = some u9 ∧ w.cell? ⟨g, 10, none⟩ = some u10 ∧ w.cell? ⟨g, 11, none⟩ = some u11 := ⟨blk_cell h 0, blk_cell h 1, blk_cell h 2, blk_cell h 3, blk_cell h 4, blk_cell h 5, blk_cell h 6, blk_cell h 7, blk_cell h 8, blk_cell h 9, blk_cell h 10, blk_cell h 11⟩
theorem maker_reg (g : Nat) (a0 a1 a2 a3 a4 : Value) (m : S25) (pc : Int) (b0 b1 b2 b3 b4 b5 b6 b7 b8 : Value) (v : Value) (r : Int) (w : World) (hm : w.heap[g]? = some (Obj.cells #[a0, a1, a2, a3, a4, .string m.f0, .string m.f1, .string m.f2, .int .i64 pc, b0, b1, b2, b3, b4, b5, b6, b7, b8, v] 85 (0, 0))) :
  Calls Try.prog 38 #[.pointer (some ⟨g,0,none⟩),.int .i64 r] w fun e w' => e = .returned (.agg (List.toArray (qR 1 m r []))) ∧ Below w.heap.size w w':=by
 have HC:=aq (fun W => Q43.gen_Reg.calls m.f0 m.f1 m.f2 r 1 m.f0 m.f1 m.f2 r ⟨#[]⟩ ⟨#[]⟩ ⟨#[]⟩ ⟨#[]⟩ ⟨#[]⟩ 0 ⟨#[]⟩ W rfl)
 have HZ0:=aq (World.alloc_heap_new w (Obj.cells (List.toArray (qZ [])) 50))
 have HB0:=aq (below_alloc (Below.refl w.heap.size w) (Obj.cells (List.toArray (qZ [])) 50))
 have hb:=blk_below hm (below_alloc (Below.refl w.heap.size w) (Obj.cells (List.toArray (qZ [])) 50))
 obtain ⟨e5,e6,e7⟩ : (w.alloc (Obj.cells (List.toArray (qZ [])) 50)).cell? ⟨g,5,none⟩ = some (.string m.f0) ∧ (w.alloc (Obj.cells (List.toArray (qZ [])) 50)).cell? ⟨g,6,none⟩ = some (.string m.f1) ∧ (w.alloc (Obj.cells (List.toArray (qZ [])) 50)).cell? ⟨g,7,none⟩ = some (.string m.f2):=⟨blk_cell hb 5,blk_cell hb 6,blk_cell hb 7⟩
 clear hm hb
 go_enter Try.func38,Try.ntmps38
 go_wp2_with fail
 refine (HC.out _).mono ?_
 rintro e w1 ⟨rfl,hb⟩
 have HZ:=aq (blk_below HZ0.out hb)
 have HB:=aq (below_step HB0.out hb)
 clear hb e5 e6 e7
 obtain ⟨z0,z1,z2,z3,z4,z5,z6,z7,z8,z9,z10,z11⟩:=cells12 HZ.out
 have zf:=blk_frozen HZ.out
 go_wp2_with fail
 exact bodyPost_ret (results_cell_row rfl _ _ w.heap.size 50 (List.toArray (qR 1 m r [])) (0,0) _ rfl (set12_own HZ.out _ _ _ _ _ _ _ _ _ _ _ _) Try.underlying50 rfl (by kernel_rfl)) rfl ⟨rfl,set12_below HB.out (Nat.le_refl _) _ _ _ _ _ _ _ _ _ _ _ _⟩
theorem maker_flows (base g : Nat) (a0 a1 a2 a3 a4 : Value) (m : S25) (pc : Int) (b0 b1 b2 b3 b4 b5 b6 b7 b8 : Value) (v : Value) (l : List S60) (pt fr : S50) (cls : ByteArray) (w : World) (hm : MkOwn w base g a0 a1 a2 a3 a4 m pc b0 b1 b2 b3 b4 b5 b6 b7 b8 v l) (hl : l.length ≤ 1048576) (hbz : base ≤ w.heap.size) :
  Calls Try.prog 37 #[.pointer (some ⟨g,0,none⟩),.agg (List.toArray (qL pt [])),.agg (List.toArray (qL fr [])),.string cls] w fun e w' => ∃ v',e = .returned (.tuple #[]) ∧ MkOwn w' base g a0 a1 a2 a3 a4 m pc b0 b1 b2 b3 b4 b5 b6 b7 b8 v' (l ++ [(⟨2,pc,pt,fr,⟨m,0,⟨#[]⟩⟩,z44,cls,z25,[]⟩ : S60)]) ∧ Below base w w' ∧ Kp w w' g v v':=by
 have hab:=below_alloc (below_alloc (Below.refl w.heap.size w) (Obj.cells (List.toArray (qL pt [])) 50)) (Obj.cells (List.toArray (qL fr [])) 50)
 have HP:=aq (put_plain base g a0 a1 a2 a3 a4 m pc b0 b1 b2 b3 b4 b5 b6 b7 b8 v l (⟨2,0,pt,fr,z46,z44,cls,z25,[]⟩ : S60) ((w.alloc (Obj.cells (List.toArray (qL pt [])) 50)).alloc (Obj.cells (List.toArray (qL fr [])) 50)) (hm.below hab hbz) (show (2 : Int) ≠ 1 by decide) rfl hl (Nat.le_trans hbz hab.size))
 have HB:=aq (hab.mono hbz)
 have HA:=aq hab
 clear hm hab
 go_enter Try.func37,Try.ntmps37
 go_wp2_with fail
 refine HP.out.mono ?_
 rintro e w2 ⟨v2,rfl,hm2,hb2,hk2⟩
 have HM2:=aq hm2
 have HB2:=aq (HB.out.trans hb2)
 have HK2:=aq (Kp.pre HA.out hk2)
 clear hm2 hb2 hk2
 go_wp2_with fail
 exact bodyPost_end (v:=.tuple #[]) (by simp [results,Try.results37,go_sem]) rfl (by first|exact ⟨rfl,⟨_,HM2.out,HB2.out,HK2.out⟩⟩|exact ⟨_,rfl,HM2.out,HB2.out,HK2.out⟩)
theorem maker_begins (base g : Nat) (a0 a1 a2 a3 a4 : Value) (m : S25) (pc : Int) (b0 b1 b2 b3 b4 b5 b6 b7 b8 : Value) (v : Value) (l : List S60) (cls : ByteArray) (w : World) (hm : MkOwn w base g a0 a1 a2 a3 a4 m pc b0 b1 b2 b3 b4 b5 b6 b7 b8 v l) (hl : l.length ≤ 1048576) (hbz : base ≤ w.heap.size) :
  Calls Try.prog 69 #[.pointer (some ⟨g,0,none⟩),.string cls] w fun e w' => ∃ v',e = .returned (.tuple #[]) ∧ MkOwn w' base g a0 a1 a2 a3 a4 m pc b0 b1 b2 b3 b4 b5 b6 b7 b8 v' (l ++ [(⟨7,pc,z50,z50,⟨m,0,⟨#[]⟩⟩,z44,cls,z25,[]⟩ : S60)]) ∧ Below base w w' ∧ Kp w w' g v v':=by
 have HP:=aq (put_plain base g a0 a1 a2 a3 a4 m pc b0 b1 b2 b3 b4 b5 b6 b7 b8 v l (⟨7,0,z50,z50,z46,z44,cls,z25,[]⟩ : S60) w hm (show (7 : Int) ≠ 1 by decide) rfl hl hbz)
 clear hm
 go_enter Try.func69,Try.ntmps69
 go_wp2_with fail
 refine HP.out.mono ?_
 rintro e w2 ⟨v2,rfl,hm2,hb2,hk2⟩
 have HM2:=aq hm2
 have HB2:=aq hb2
 have HK2:=aq hk2
 clear hm2 hb2 hk2
 go_wp2_with fail
 exact bodyPost_end (v:=.tuple #[]) (by simp [results,Try.results69,go_sem]) rfl (by first|exact ⟨rfl,⟨_,HM2.out,HB2.out,HK2.out⟩⟩|exact ⟨_,rfl,HM2.out,HB2.out,HK2.out⟩)
theorem maker_fresh (base g : Nat) (a0 a1 a2 a3 a4 : Value) (m : S25) (pc : Int) (b0 b1 b2 b3 b4 b5 b6 b7 b8 : Value) (v : Value) (l : List S60) (ia : Int) (cls : ByteArray) (w : World) (hm : MkOwn w base g a0 a1 a2 a3 a4 m pc b0 (.int .i64 ia) b2 b3 b4 b5 b6 b7 b8 v l) (hl : l.length ≤ 1048576) (hbz : base ≤ w.heap.size) :
  Calls Try.prog 70 #[.pointer (some ⟨g,0,none⟩),.string cls] w fun e w' => ∃ v',e = .returned (.tuple #[]) ∧ MkOwn w' base g a0 a1 a2 a3 a4 m pc b0 (.int .i64 ia) b2 b3 b4 b5 b6 b7 b8 v' (l ++ [(⟨1,pc,(⟨1,m,ia,z44,z46⟩ : S50),z50,⟨m,pc,cls⟩,z44,⟨#[]⟩,z25,[]⟩ : S60)]) ∧ Below base w w' ∧ Kp w w' g v v':=by
 have HR:=aq (maker_reg g a0 a1 a2 a3 a4 m pc b0 (.int .i64 ia) b2 b3 b4 b5 b6 b7 b8 v ia w hm.b)
 have e10 : w.cell? ⟨g,10,none⟩ = some (.int .i64 ia):=blk_cell hm.b 10
 have HM:=aq hm
 have HP:=aq (fun W (hb : Below w.heap.size w W) => put_has base g a0 a1 a2 a3 a4 m pc b0 (.int .i64 ia) b2 b3 b4 b5 b6 b7 b8 v l (⟨1,0,(⟨1,m,ia,z44,z46⟩ : S50),z50,⟨z25,0,cls⟩,z44,⟨#[]⟩,z25,[]⟩ : S60) W (hm.below hb hbz) rfl rfl hl (Nat.le_trans hbz hb.size))
 clear hm
 go_enter Try.func70,Try.ntmps70
 go_wp2_with fail
 refine HR.out.mono ?_
 rintro e w1 ⟨rfl,hb⟩
 have HB:=aq hb
 clear hb
 go_wp2_with fail
 refine (HP.out w1 HB.out).mono ?_
 rintro e w2 ⟨v2,rfl,hm2,hb2,hk2⟩
 have HM2:=aq hm2
 have HB2:=aq ((HB.out.mono hbz).trans hb2)
 have HK2:=aq (Kp.pre HB.out hk2)
 clear hm2 hb2 hk2
 go_wp2_with fail
 exact bodyPost_end (v:=.tuple #[]) (by simp [results,Try.results70,go_sem]) rfl (by first|exact ⟨rfl,⟨_,HM2.out,HB2.out,HK2.out⟩⟩|exact ⟨_,rfl,HM2.out,HB2.out,HK2.out⟩)
end Go.Proofs.Ytfplcohjnlbfjaa.Hand
end

section
namespace Go.Proofs.Ytfplcohjnlbfjaa.HandV
open Go.Proofs.Ytfplcohjnlbfjaa.Hand Go.RowKit Go.Proofs.YtfplcohjnlbfjaaW.PrintWords Go.Proofs.YtfplcohjnlbfjaaW.PrintLast Go.Proofs.YtfplcohjnlbfjaaW.PrintMore
def kSl : Kd (Option Addr × Nat × Nat) := Kd.scalar (fun p => .slice p.1 p.2.1 p.2.2) (fun _ => rfl)
structure CV where
 f0 : Int
 f1 : Int
 f2 : S50
 f3 : S50
 f4 : S46
 f5 : S44
 f6 : ByteArray
 f7 : S25
 f8 : Option Addr × Nat × Nat
def noSl : Option Addr × Nat × Nat := (none, 0, 0)
def kCV : Kd CV := Kd.iso (Kd.pair (Kd.int .i64) (Kd.pair (Kd.int .i64) (Kd.pair k50 (Kd.pair k50 (Kd.pair k46 (Kd.pair k44 (Kd.pair Kd.string (Kd.pair k25 kSl)))))))) (fun x : CV => (x.f0, x.f1, x.f2, x.f3, x.f4, x.f5, x.f6, x.f7, x.f8))
theorem kCV_open {w : World} {x : CV} {cs : List Value} (h : kCV.K w x cs) : cs = (kK x.f0 x.f1 (qL x.f2 (qL x.f3 (sL x.f4 (fL x.f5 (kS x.f6 (mL x.f7 [.slice x.f8.1 x.f8.2.1 x.f8.2.2]))))))) := by
 obtain ⟨_,_,rfl,rfl,⟨_,_,rfl,rfl,⟨_,_,rfl,s2,⟨_,_,rfl,s14,⟨_,_,rfl,s26,⟨_,_,rfl,s31,⟨_,_,rfl,rfl,⟨_,_,rfl,s34,rfl⟩⟩⟩⟩⟩⟩⟩⟩:=h
 obtain rfl:=k50_open s2
 obtain rfl:=k50_open s14
 obtain rfl:=k46_open s26
 obtain rfl:=k44_open s31
 obtain rfl:=k25_open s34
 exact rfl
theorem kCV_mkM (w : World) (base : Nat) (ok : Nat → Prop) (x : CV) : kCV.M w base ok x [.int .i64 x.f0, .int .i64 x.f1, .int .i64 x.f2.f0, .string x.f2.f1.f0, .string x.f2.f1.f1, .string x.f2.f1.f2, .int .i64 x.f2.f2, .string x.f2.f3.f0, .string x.f2.f3.f1, .string x.f2.f4.f0.f0, .string x.f2.f4.f0.f1, .string x.f2.f4.f0.f2, .int .i64 x.f2.f4.f1, .string x.f2.f4.f2, .int .i64 x.f3.f0, .string x.f3.f1.f0, .string x.f3.f1.f1, .string x.f3.f1.f2, .int .i64 x.f3.f2, .string x.f3.f3.f0, .string x.f3.f3.f1, .string x.f3.f4.f0.f0, .string x.f3.f4.f0.f1, .string x.f3.f4.f0.f2, .int .i64 x.f3.f4.f1, .string x.f3.f4.f2, .string x.f4.f0.f0, .string x.f4.f0.f1, .string x.f4.f0.f2, .int .i64 x.f4.f1, .string x.f4.f2, .string x.f5.f0, .string x.f5.f1, .string x.f6, .string x.f7.f0, .string x.f7.f1, .string x.f7.f2, .slice x.f8.1 x.f8.2.1 x.f8.2.2] := ⟨[.int .i64 x.f0], [.int .i64 x.f1, .int .i64 x.f2.f0, .string x.f2.f1.f0, .string x.f2.f1.f1, .string x.f2.f1.f2, .int .i64 x.f2.f2, .string x.f2.f3.f0, .string x.f2.f3.f1, .string x.f2.f4.f0.f0, .string x.f2.f4.f0.f1, .string x.f2.f4.f0.f2, .int .i64 x.f2.f4.f1, .string x.f2.f4.f2, .int .i64 x.f3.f0, .string x.f3.f1.f0, .string x.f3.f1.f1, .string x.f3.f1.f2, .int .i64 x.f3.f2, .string x.f3.f3.f0, .string x.f3.f3.f1, .string x.f3.f4.f0.f0, .string x.f3.f4.f0.f1, .string x.f3.f4.f0.f2, .int .i64 x.f3.f4.f1, .string x.f3.f4.f2, .string x.f4.f0.f0, .string x.f4.f0.f1, .string x.f4.f0.f2, .int .i64 x.f4.f1, .string x.f4.f2, .string x.f5.f0, .string x.f5.f1, .string x.f6, .string x.f7.f0, .string x.f7.f1, .string x.f7.f2, .slice x.f8.1 x.f8.2.1 x.f8.2.2], rfl, rfl, ⟨[.int .i64 x.f1], [.int .i64 x.f2.f0, .string x.f2.f1.f0, .string x.f2.f1.f1, .string x.f2.f1.f2, .int .i64 x.f2.f2, .string x.f2.f3.f0, .string x.f2.f3.f1, .string x.f2.f4.f0.f0, .string x.f2.f4.f0.f1, .string x.f2.f4.f0.f2, .int .i64 x.f2.f4.f1, .string x.f2.f4.f2, .int .i64 x.f3.f0, .string x.f3.f1.f0, .string x.f3.f1.f1, .string x.f3.f1.f2, .int .i64 x.f3.f2, .string x.f3.f3.f0, .string x.f3.f3.f1, .string x.f3.f4.f0.f0, .string x.f3.f4.f0.f1, .string x.f3.f4.f0.f2, .int .i64 x.f3.f4.f1, .string x.f3.f4.f2, .string x.f4.f0.f0, .string x.f4.f0.f1, .string x.f4.f0.f2, .int .i64 x.f4.f1, .string x.f4.f2, .string x.f5.f0, .string x.f5.f1, .string x.f6, .string x.f7.f0, .string x.f7.f1, .string x.f7.f2, .slice x.f8.1 x.f8.2.1 x.f8.2.2], rfl, rfl, ⟨[.int .i64 x.f2.f0, .string x.f2.f1.f0, .string x.f2.f1.f1, .string x.f2.f1.f2, .int .i64 x.f2.f2, .string x.f2.f3.f0, .string x.f2.f3.f1, .string x.f2.f4.f0.f0, .string x.f2.f4.f0.f1, .string x.f2.f4.f0.f2, .int .i64 x.f2.f4.f1, .string x.f2.f4.f2], [.int .i64 x.f3.f0, .string x.f3.f1.f0, .string x.f3.f1.f1, .string x.f3.f1.f2, .int .i64 x.f3.f2, .string x.f3.f3.f0, .string x.f3.f3.f1, .string x.f3.f4.f0.f0, .string x.f3.f4.f0.f1, .string x.f3.f4.f0.f2, .int .i64 x.f3.f4.f1, .string x.f3.f4.f2, .string x.f4.f0.f0, .string x.f4.f0.f1, .string x.f4.f0.f2, .int .i64 x.f4.f1, .string x.f4.f2, .string x.f5.f0, .string x.f5.f1, .string x.f6, .string x.f7.f0, .string x.f7.f1, .string x.f7.f2, .slice x.f8.1 x.f8.2.1 x.f8.2.2], rfl, (k50_mkM w base ok x.f2 ), ⟨[.int .i64 x.f3.f0, .string x.f3.f1.f0, .string x.f3.f1.f1, .string x.f3.f1.f2, .int .i64 x.f3.f2, .string x.f3.f3.f0, .string x.f3.f3.f1, .string x.f3.f4.f0.f0, .string x.f3.f4.f0.f1, .string x.f3.f4.f0.f2, .int .i64 x.f3.f4.f1, .string x.f3.f4.f2], [.string x.f4.f0.f0, .string x.f4.f0.f1, .string x.f4.f0.f2, .int .i64 x.f4.f1, .string x.f4.f2, .string x.f5.f0, .string x.f5.f1, .string x.f6, .string x.f7.f0, .string x.f7.f1, .string x.f7.f2, .slice x.f8.1 x.f8.2.1 x.f8.2.2], rfl, (k50_mkM w base ok x.f3 ), ⟨[.string x.f4.f0.f0, .string x.f4.f0.f1, .string x.f4.f0.f2, .int .i64 x.f4.f1, .string x.f4.f2], [.string x.f5.f0, .string x.f5.f1, .string x.f6, .string x.f7.f0, .string x.f7.f1, .string x.f7.f2, .slice x.f8.1 x.f8.2.1 x.f8.2.2], rfl, (k46_mkM w base ok x.f4 ), ⟨[.string x.f5.f0, .string x.f5.f1], [.string x.f6, .string x.f7.f0, .string x.f7.f1, .string x.f7.f2, .slice x.f8.1 x.f8.2.1 x.f8.2.2], rfl, (k44_mkM w base ok x.f5 ), ⟨[.string x.f6], [.string x.f7.f0, .string x.f7.f1, .string x.f7.f2, .slice x.f8.1 x.f8.2.1 x.f8.2.2], rfl, rfl, ⟨[.string x.f7.f0, .string x.f7.f1, .string x.f7.f2], [.slice x.f8.1 x.f8.2.1 x.f8.2.2], rfl, (k25_mkM w base ok x.f7 ), rfl⟩⟩⟩⟩⟩⟩⟩⟩
structure MkOwn (w : World) (base g : Nat) (a0 a1 a2 a3 a4 : Value) (m : S25) (pc : Int) (b0 b1 b2 b3 b4 b5 b6 b7 b8 : Value) (v : Value) (l : List CV) : Prop where
 b : w.heap[g]? = some (Obj.cells #[a0,a1,a2,a3,a4,.string m.f0,.string m.f1,.string m.f2,.int .i64 pc,b0,b1,b2,b3,b4,b5,b6,b7,b8,v] 85 (0,0))
 hb : base ≤ g
 r : Kd.R kCV 60 w base (fun _ => True) v l
theorem MkOwn.below {w w' : World} {base g : Nat} {a0 a1 a2 a3 a4 : Value} {m : S25} {pc : Int} {b0 b1 b2 b3 b4 b5 b6 b7 b8 : Value} {v : Value} {l : List CV} (h : MkOwn w base g a0 a1 a2 a3 a4 m pc b0 b1 b2 b3 b4 b5 b6 b7 b8 v l) (hb : Below w.heap.size w w') (hbz : base ≤ w.heap.size) : MkOwn w' base g a0 a1 a2 a3 a4 m pc b0 b1 b2 b3 b4 b5 b6 b7 b8 v l := { h with b := blk_below h.b hb, r := Kd.R_below h.r hb }
theorem MkOwn.put {w W w2 : World} {base g : Nat} {a0 a1 a2 a3 a4 : Value} {m : S25} {pc : Int} {b0 b1 b2 b3 b4 b5 b6 b7 b8 : Value} {v v' : Value} {l : List CV} {x : CV} (h : MkOwn W base g a0 a1 a2 a3 a4 m pc b0 b1 b2 b3 b4 b5 b6 b7 b8 v l) (hr : Kd.R kCV 60 w2 base (fun _ => True) v' (l ++ [x])) (hg : W.grownBy w2 v.ownBlock) (hB : Below base w w2) :
  MkOwn (w2.setCell ⟨g,18,none⟩ v') base g a0 a1 a2 a3 a4 m pc b0 b1 b2 b3 b4 b5 b6 b7 b8 v' (l ++ [x]) ∧ Below base w (w2.setCell ⟨g,18,none⟩ v'):=by
 have hb2:=blk_grown h.b hg (Kd.R_ne h.r h.b (by decide))
 exact ⟨{ b:=blk_put hb2 18 v' rfl,hb:=h.hb,r:=Kd.R_set hr hb2 (by decide) 18 v' },hB.setCell h.hb _⟩
end Go.Proofs.Ytfplcohjnlbfjaa.HandV
end

section
namespace Go.Proofs.Ytfplcohjnlbfjaa.HandV
open Go.Proofs.Ytfplcohjnlbfjaa.Hand Go.RowKit Go.Proofs.YtfplcohjnlbfjaaW.PrintWords Go.Proofs.YtfplcohjnlbfjaaW.PrintLast Go.Proofs.YtfplcohjnlbfjaaW.PrintMore
theorem put_plain (base g : Nat) (a0 a1 a2 a3 a4 : Value) (m : S25) (pc : Int) (b0 b1 b2 b3 b4 b5 b6 b7 b8 : Value) (v : Value) (l : List CV) (c : CV) (w : World) (hm : MkOwn w base g a0 a1 a2 a3 a4 m pc b0 b1 b2 b3 b4 b5 b6 b7 b8 v l) (hk : c.f0 ≠ 1) (hl : l.length ≤ 1048576) (hbz : base ≤ w.heap.size) :
  Calls Try.prog 61 #[.pointer (some ⟨g,0,none⟩),.agg (List.toArray ((kK c.f0 c.f1 (qL c.f2 (qL c.f3 (sL c.f4 (fL c.f5 (kS c.f6 (mL c.f7 [.slice c.f8.1 c.f8.2.1 c.f8.2.2])))))))))] w fun e w' => ∃ v',e = .returned (.tuple #[]) ∧ MkOwn w' base g a0 a1 a2 a3 a4 m pc b0 b1 b2 b3 b4 b5 b6 b7 b8 v' (l ++ [(⟨c.f0,pc,c.f2,c.f3,⟨m,c.f4.f1,c.f4.f2⟩,c.f5,c.f6,c.f7,c.f8⟩ : CV)]) ∧ Below base w w' ∧ Kp w w' g v v':=by
 obtain ⟨n,hn⟩ : ∃ n,n = w.heap.size:=⟨_,rfl⟩
 have hlt:=blk_lt hm.b
 have hne : g ≠ n:=by omega
 have hgn : g < n:=by omega
 have hbn : base ≤ n:=by omega
 have hab:=below_alloc (Below.refl w.heap.size w) (Obj.cells (List.toArray ((kK c.f0 c.f1 (qL c.f2 (qL c.f3 (sL c.f4 (fL c.f5 (kS c.f6 (mL c.f7 [.slice c.f8.1 c.f8.2.1 c.f8.2.2]))))))))) 60)
 have HB0:=hm.hb
 have HMb:=aq ((hm.below hab hbz).b)
 have HRb : Aside0 ((w.alloc (Obj.cells (List.toArray ((kK c.f0 c.f1 (qL c.f2 (qL c.f3 (sL c.f4 (fL c.f5 (kS c.f6 (mL c.f7 [.slice c.f8.1 c.f8.2.1 c.f8.2.2]))))))))) 60)).heap[n]? = some (Obj.cells (List.toArray ((kK c.f0 c.f1 (qL c.f2 (qL c.f3 (sL c.f4 (fL c.f5 (kS c.f6 (mL c.f7 [.slice c.f8.1 c.f8.2.1 c.f8.2.2]))))))))) 60 (0,0))):=⟨by rw [hn];exact World.alloc_heap_new w _⟩
 have HRr : Aside0 (Kd.R kCV 60 (w.alloc (Obj.cells (List.toArray ((kK c.f0 c.f1 (qL c.f2 (qL c.f3 (sL c.f4 (fL c.f5 (kS c.f6 (mL c.f7 [.slice c.f8.1 c.f8.2.1 c.f8.2.2]))))))))) 60)) base (fun k => True ∧ k ≠ n) v l):=⟨by rw [hn];exact Kd.R_below (Kd.R_elderB hm.r w.heap.size (Nat.le_refl _)) hab⟩
 have HBe:=aq hab
 have hnn : w.heap.size ≤ n:=by omega
 have HBW:=aq hbz
 have HSz : Aside0 ((w.alloc (Obj.cells (List.toArray ((kK c.f0 c.f1 (qL c.f2 (qL c.f3 (sL c.f4 (fL c.f5 (kS c.f6 (mL c.f7 [.slice c.f8.1 c.f8.2.1 c.f8.2.2]))))))))) 60)).heap.size = n + 1):=⟨by rw [hn];exact World.size_alloc w _⟩
 have HLn : Aside0 ((l.length + 1) * 544 ≤ 140737488355328):=⟨by omega⟩
 have HVlt : Aside0 (∀ k,v.ownBlock = some k → k < n):=⟨fun k hk => by rw [hn];exact Kd.R_lt hm.r k hk⟩
 have HVne : Aside0 (some g ≠ v.ownBlock):=⟨Kd.R_ne hm.r hm.b (by decide)⟩
 have hkb : (c.f0 == 1) = false:=beq_eq_false_iff_ne.2 hk
 clear hm hab hk
 go_enter Try.func61,Try.ntmps61
 go_wp2_with fail
 rw [← hn]
 clear hn
 generalize w.alloc (Obj.cells (List.toArray ((kK c.f0 c.f1 (qL c.f2 (qL c.f3 (sL c.f4 (fL c.f5 (kS c.f6 (mL c.f7 [.slice c.f8.1 c.f8.2.1 c.f8.2.2]))))))))) 60) = X0 at HMb HRb HRr HBe HSz ⊢
 generalize Value.agg (List.toArray ((kK c.f0 c.f1 (qL c.f2 (qL c.f3 (sL c.f4 (fL c.f5 (kS c.f6 (mL c.f7 [.slice c.f8.1 c.f8.2.1 c.f8.2.2]))))))))) = cv
 replace HMb : Aside0 (X0.drew.heap[g]? = some (Obj.cells #[a0,a1,a2,a3,a4,.string m.f0,.string m.f1,.string m.f2,.int .i64 pc,b0,b1,b2,b3,b4,b5,b6,b7,b8,v] 85 (0,0))):=⟨HMb.out⟩
 replace HRb : Aside0 (X0.drew.heap[n]? = some (Obj.cells (List.toArray ((kK c.f0 c.f1 (qL c.f2 (qL c.f3 (sL c.f4 (fL c.f5 (kS c.f6 (mL c.f7 [.slice c.f8.1 c.f8.2.1 c.f8.2.2]))))))))) 60 (0,0))):=⟨HRb.out⟩
 replace HRr : Aside0 (Kd.R kCV 60 X0.drew base (fun k => True ∧ k ≠ n) v l):=⟨by apply Kd.R_drew;exact HRr.out⟩
 replace HBe : Aside0 (Below w.heap.size w X0.drew):=⟨below_drew1 HBe.out⟩
 replace HSz : Aside0 (X0.drew.heap.size = n + 1):=⟨HSz.out⟩
 obtain ⟨e5,e6,e7,e8⟩ : X0.drew.cell? ⟨g,5,none⟩ = some (.string m.f0) ∧ X0.drew.cell? ⟨g,6,none⟩ = some (.string m.f1) ∧ X0.drew.cell? ⟨g,7,none⟩ = some (.string m.f2) ∧ X0.drew.cell? ⟨g,8,none⟩ = some (.int .i64 pc):=⟨blk_cell HMb.out 5,blk_cell HMb.out 6,blk_cell HMb.out 7,blk_cell HMb.out 8⟩
 obtain ⟨o1,o26,o27,o28⟩ : X0.drew.cell? ⟨n,1,none⟩ = some (.int .i64 c.f1) ∧ X0.drew.cell? ⟨n,26,none⟩ = some (.string c.f4.f0.f0) ∧ X0.drew.cell? ⟨n,27,none⟩ = some (.string c.f4.f0.f1) ∧ X0.drew.cell? ⟨n,28,none⟩ = some (.string c.f4.f0.f2):=⟨blk_cell HRb.out 1,blk_cell HRb.out 26,blk_cell HRb.out 27,blk_cell HRb.out 28⟩
 have hfr:=blk_frozen HRb.out
 refine start_ (n:=13) (S:=fun w' => w'.cell? ⟨g,5,none⟩ = some (.string m.f0) ∧ w'.cell? ⟨g,6,none⟩ = some (.string m.f1) ∧ w'.cell? ⟨g,7,none⟩ = some (.string m.f2) ∧ w'.cell? ⟨g,8,none⟩ = some (.int .i64 pc)) (ds:=[12]) (Array.replicate 13 false) (by kernel_rfl) rfl rfl ⟨e5,e6,e7,e8⟩ (fun hHeld => ?_)
 generalize X0.drew = X1 at HMb HRb HRr HBe HSz e5 e6 e7 e8 o1 o26 o27 o28 hfr hHeld ⊢
 refine sP (i:=0) (N:=some 4) ?_
 refine sP (i:=1) (N:=some 5) ?_
 refine sP (i:=2) (N:=some 6) ?_
 refine sP (i:=4) (N:=some 8) ?_
 refine sP (i:=5) (N:=some 9) ?_
 refine sP (i:=6) (N:=some 10) ?_
 refine sT (i:=3) (N:=some 7) hHeld ?_
 refine sP (i:=8) (N:=some 12) ?_
 refine sT (i:=7) (N:=some 11) hHeld ?_
 refine sO (i:=9) (N:=none) fun K hK => ?_
 refine skip_ (w1:=?_) (by rfl) rfl ?_ ?_
 rotate_left
 ·
  go_simp
  rfl
 refine hK.out _ _ ⟨((cell_far (p:=⟨n,1,none⟩) (a:=⟨g,5,none⟩) hne _).trans e5),((cell_far (p:=⟨n,1,none⟩) (a:=⟨g,6,none⟩) hne _).trans e6),((cell_far (p:=⟨n,1,none⟩) (a:=⟨g,7,none⟩) hne _).trans e7),((cell_far (p:=⟨n,1,none⟩) (a:=⟨g,8,none⟩) hne _).trans e8)⟩ (fun hHeld => ?_)
 clear hK K
 refine sP (i:=10) (N:=some 13) ?_
 refine sP (i:=11) (N:=some 14) ?_
 refine sX (i:=12) (N:=none) fun K hK => ?_
 refine skip_ (w1:=?_) (by rfl) rfl ?_ ?_
 rotate_left
 ·
  go_simp
  rfl
 refine hK.out _ _ ?_
 clear hK K
 refine done_ (by kernel_rfl) ?_
 have HMb:=aq (show ((((X1.setCell ⟨n,1,none⟩ (.int .i64 pc)).setCell ⟨n,26,none⟩ (.string m.f0)).setCell ⟨n,27,none⟩ (.string m.f1)).setCell ⟨n,28,none⟩ (.string m.f2)).heap[g]? = some (Obj.cells #[a0,a1,a2,a3,a4,.string m.f0,.string m.f1,.string m.f2,.int .i64 pc,b0,b1,b2,b3,b4,b5,b6,b7,b8,v] 85 (0,0)) from by rw [Below.heap_setCell _ _ _ _ hne,Below.heap_setCell _ _ _ _ hne,Below.heap_setCell _ _ _ _ hne,Below.heap_setCell _ _ _ _ hne];exact HMb.out)
 have HRb:=aq (show ((((X1.setCell ⟨n,1,none⟩ (.int .i64 pc)).setCell ⟨n,26,none⟩ (.string m.f0)).setCell ⟨n,27,none⟩ (.string m.f1)).setCell ⟨n,28,none⟩ (.string m.f2)).heap[n]? = some (Obj.cells (List.toArray ((kK c.f0 pc (qL c.f2 (qL c.f3 (sM m c.f4.f1 c.f4.f2 (fL c.f5 (kS c.f6 (mL c.f7 [.slice c.f8.1 c.f8.2.1 c.f8.2.2]))))))))) 60 (0,0)) from (blk_put (cs:=(List.toArray ((kK c.f0 pc (qL c.f2 (qL c.f3 ((.string m.f0) :: (.string m.f1) :: (.string c.f4.f0.f2) :: (.int .i64 c.f4.f1) :: (.string c.f4.f2) :: (fL c.f5 (kS c.f6 (mL c.f7 [.slice c.f8.1 c.f8.2.1 c.f8.2.2])))))))))) (blk_put (cs:=(List.toArray ((kK c.f0 pc (qL c.f2 (qL c.f3 ((.string m.f0) :: (.string c.f4.f0.f1) :: (.string c.f4.f0.f2) :: (.int .i64 c.f4.f1) :: (.string c.f4.f2) :: (fL c.f5 (kS c.f6 (mL c.f7 [.slice c.f8.1 c.f8.2.1 c.f8.2.2])))))))))) (blk_put (cs:=(List.toArray ((kK c.f0 pc (qL c.f2 (qL c.f3 (sL c.f4 (fL c.f5 (kS c.f6 (mL c.f7 [.slice c.f8.1 c.f8.2.1 c.f8.2.2])))))))))) (blk_put (cs:=(List.toArray ((kK c.f0 c.f1 (qL c.f2 (qL c.f3 (sL c.f4 (fL c.f5 (kS c.f6 (mL c.f7 [.slice c.f8.1 c.f8.2.1 c.f8.2.2])))))))))) HRb.out 1 (.int .i64 pc) rfl) 26 (.string m.f0) rfl) 27 (.string m.f1) rfl) 28 (.string m.f2) rfl))
 have HRr:=aq (show Kd.R kCV 60 ((((X1.setCell ⟨n,1,none⟩ (.int .i64 pc)).setCell ⟨n,26,none⟩ (.string m.f0)).setCell ⟨n,27,none⟩ (.string m.f1)).setCell ⟨n,28,none⟩ (.string m.f2)) base (fun k => True ∧ k ≠ n) v l from (Kd.R_far (p:=⟨n,28,none⟩) (Kd.R_far (p:=⟨n,27,none⟩) (Kd.R_far (p:=⟨n,26,none⟩) (Kd.R_far (p:=⟨n,1,none⟩) HRr.out (fun _ hk => hk.2) (.int .i64 pc)) (fun _ hk => hk.2) (.string m.f0)) (fun _ hk => hk.2) (.string m.f1)) (fun _ hk => hk.2) (.string m.f2)))
 have HBe:=aq (show Below w.heap.size w ((((X1.setCell ⟨n,1,none⟩ (.int .i64 pc)).setCell ⟨n,26,none⟩ (.string m.f0)).setCell ⟨n,27,none⟩ (.string m.f1)).setCell ⟨n,28,none⟩ (.string m.f2)) from ((((HBe.out.setCell hnn (.int .i64 pc)).setCell hnn (.string m.f0)).setCell hnn (.string m.f1)).setCell hnn (.string m.f2)))
 have HSz:=aq (show ((((X1.setCell ⟨n,1,none⟩ (.int .i64 pc)).setCell ⟨n,26,none⟩ (.string m.f0)).setCell ⟨n,27,none⟩ (.string m.f1)).setCell ⟨n,28,none⟩ (.string m.f2)).heap.size = n + 1 from by rw [World.size_setCell,World.size_setCell,World.size_setCell,World.size_setCell];exact HSz.out)
 generalize ((((X1.setCell ⟨n,1,none⟩ (.int .i64 pc)).setCell ⟨n,26,none⟩ (.string m.f0)).setCell ⟨n,27,none⟩ (.string m.f1)).setCell ⟨n,28,none⟩ (.string m.f2)) = W1 at HMb HRb HRr HBe HSz ⊢
 clear e5 e6 e7 e8 o1 o26 o27 o28 hfr hHeld
 have d0 : W1.cell? ⟨n,0,none⟩ = some (.int .i64 c.f0):=blk_cell HRb.out 0
 have e8 : W1.cell? ⟨g,8,none⟩ = some (.int .i64 pc):=blk_cell HMb.out 8
 have hfr:=blk_frozen HRb.out
 go_wp2_with fail
 replace HMb : Aside0 (W1.drew.heap[g]? = some (Obj.cells #[a0,a1,a2,a3,a4,.string m.f0,.string m.f1,.string m.f2,.int .i64 pc,b0,b1,b2,b3,b4,b5,b6,b7,b8,v] 85 (0,0))):=⟨HMb.out⟩
 replace HRr : Aside0 (Kd.R kCV 60 W1.drew base (fun k => True ∧ k ≠ n) v l):=⟨by apply Kd.R_drew;exact HRr.out⟩
 replace HBe : Aside0 (Below w.heap.size w W1.drew):=⟨below_drew1 HBe.out⟩
 replace HSz : Aside0 (W1.drew.heap.size = n + 1):=⟨HSz.out⟩
 have q18 : W1.drew.cell? ⟨g,18,none⟩ = some v:=blk_cell HMb.out 18
 have qf : Aside0 (W1.drew.frozen? ⟨g,18,none⟩ = false):=⟨blk_frozen HMb.out 18⟩
 have rb : W1.drew.heap[n]? = some (Obj.cells (List.toArray ((kK c.f0 pc (qL c.f2 (qL c.f3 (sM m c.f4.f1 c.f4.f2 (fL c.f5 (kS c.f6 (mL c.f7 [.slice c.f8.1 c.f8.2.1 c.f8.2.2]))))))))) 60 (0,0)):=HRb.out
 have HBz : Aside0 (base ≤ W1.drew.heap.size):=⟨by have:=HSz.out;omega⟩
 have HGlt : Aside0 ((⟨g,18,none⟩ : Addr).block < W1.drew.heap.size):=⟨by have:=HSz.out;show g < W1.drew.heap.size;omega⟩
 have HPne : Aside0 (some n ≠ v.ownBlock):=⟨fun e => by have:=HVlt.out _ e.symm;omega⟩
 refine start_ (n:=11) (S:=fun w' => w'.cell? ⟨g,18,none⟩ = some v ∧ w'.heap[n]? = some (Obj.cells (List.toArray ((kK c.f0 pc (qL c.f2 (qL c.f3 (sM m c.f4.f1 c.f4.f2 (fL c.f5 (kS c.f6 (mL c.f7 [.slice c.f8.1 c.f8.2.1 c.f8.2.2]))))))))) 60 (0,0))) (ds:=[10]) (Array.replicate 11 false) (by kernel_rfl) rfl rfl ⟨q18,rb⟩ (fun hHeld => ?_)
 generalize W1.drew = X at HMb HRr HBe HSz HBz HGlt qf q18 rb hHeld ⊢
 refine sP (i:=0) (N:=some 24) ?_
 refine sP (i:=1) (N:=some 25) ?_
 refine sP (i:=2) (N:=some 26) ?_
 refine sP (i:=3) (N:=some 27) ?_
 refine sT (i:=4) (N:=some 28) hHeld ?_
 refine take_ (i:=5) (N:=some 29) (a':=?_) #[true,true,true,true,true,true,false,false,false,false,false] rfl rfl (by kernel_rfl) (fun _ _ _ h => h) (yieldsIf_load_mid (by rfl) 60 (.tmp 3) rfl n 0 rfl ((kK c.f0 pc (qL c.f2 (qL c.f3 (sM m c.f4.f1 c.f4.f2 (fL c.f5 (kS c.f6 (mL c.f7 [.slice c.f8.1 c.f8.2.1 c.f8.2.2])))))))) _ (fun w' hw' => rangeAt_blk hw'.2) Try.underlying60 rfl (by kernel_rfl)) hHeld ?_ ?_
 rotate_left
 ·
  simp only [Act.put,List.setIfInBounds_toArray,List.set_cons_zero,List.set_cons_succ,i64_w,i32_w]
  rfl
 refine sO (i:=6) (N:=some 30) fun K hK => ?_
 refine value_ (w1:=?_) (v:=?_) (by rfl) rfl ?_ ?_
 rotate_left 2
 ·
  go_simp
  constructor
  ·
   rfl
  ·
   rfl
 refine hK.out _ _ ⟨(((below_alloc (Below.refl _ _) _).cell (World.block_lt_of_cell? _ _ q18)).trans q18),(blk_alloc rb _)⟩ (fun hHeld => ?_)
 clear hK K
 refine sN ?_
 refine sO (i:=7) (N:=some 31) fun K hK => ?_
 refine Kd.R_append_step kCV (w0:=w) base (by rfl) _ _ 62 60 _ 544 rfl Try.underlying62 cons_info rfl (by decide) (by decide) v l (⟨c.f0,pc,c.f2,c.f3,⟨m,c.f4.f1,c.f4.f2⟩,c.f5,c.f6,c.f7,c.f8⟩ : CV) ((kK c.f0 pc (qL c.f2 (qL c.f3 (sM m c.f4.f1 c.f4.f2 (fL c.f5 (kS c.f6 (mL c.f7 [.slice c.f8.1 c.f8.2.1 c.f8.2.2])))))))) (fun k => True ∧ k ≠ n) (fun _ => False) rfl (by rfl) (kCV_mkM _ _ _ (⟨c.f0,pc,c.f2,c.f3,⟨m,c.f4.f1,c.f4.f2⟩,c.f5,c.f6,c.f7,c.f8⟩ : CV)) (fun _ hk => hk.elim) (fun k hk => ⟨trivial,by have:=HSz.out;omega⟩) HRr.out (HBe.out.mono HBW.out) HBz.out HLn.out ?_
 intro v' w2 hR2 hB2 hg2 hat2
 obtain ⟨Av,nv,cv,hv⟩ : ∃ A n c,v' = Value.slice A n c:=by obtain ⟨A,c,e⟩:=Kd.R_slice hR2;exact ⟨A,_,c,e⟩
 subst hv
 have HR2:=aq (Kd.R_mono hR2 (fun _ _ => trivial))
 have HB2:=aq hB2
 have HG2:=aq hg2
 have HT2:=aq hat2
 have q18':=hg2.cell q18 HVne.out
 have tf:=(hg2.frozen_far ⟨g,18,none⟩ HGlt.out HVne.out).trans qf.out
 have rb':=blk_grown rb hg2 HPne.out
 clear hR2 hB2 hg2 hat2
 refine hK.out _ _ ⟨q18',rb'⟩ (fun hHeld => ?_)
 clear hK K
 refine sN ?_
 refine sP (i:=8) (N:=some 32) ?_
 refine sP (i:=9) (N:=some 33) ?_
 refine sX (i:=10) (N:=none) fun K hK => ?_
 refine skip_ (w1:=?_) (by rfl) rfl ?_ ?_
 rotate_left
 ·
  go_simp
  rfl
 refine hK.out _ _ ?_
 clear hK K
 refine done_ (by kernel_rfl) ?_
 go_wp2_with fail
 have hfin:=MkOwn.put (w:=w) (MkOwn.mk HMb.out HB0 (Kd.R_mono HRr.out (fun _ _ => trivial))) HR2.out HG2.out HB2.out
 have hkp : Kp w (w2.setCell ⟨g,18,none⟩ (.slice Av nv cv)) g v (.slice Av nv cv):=Kp.mk' HBe.out HG2.out HT2.out
 first
  | exact bodyPost_end (v:=.tuple #[]) (by simp [results,Try.results61,go_sem]) rfl ⟨rfl,⟨_,hfin.1,hfin.2,hkp⟩⟩
  | exact bodyPost_end (v:=.tuple #[]) (by simp [results,Try.f61,go_sem]) rfl ⟨rfl,⟨_,hfin.1,hfin.2,hkp⟩⟩
  | exact bodyPost_ret (v:=.tuple #[]) (by simp [results,Try.results61,go_sem]) rfl ⟨rfl,⟨_,hfin.1,hfin.2,hkp⟩⟩
theorem put_has (base g : Nat) (a0 a1 a2 a3 a4 : Value) (m : S25) (pc : Int) (b0 b1 b2 b3 b4 b5 b6 b7 b8 : Value) (v : Value) (l : List CV) (c : CV) (w : World) (hm : MkOwn w base g a0 a1 a2 a3 a4 m pc b0 b1 b2 b3 b4 b5 b6 b7 b8 v l) (hk : c.f0 = 1) (hl : l.length ≤ 1048576) (hbz : base ≤ w.heap.size) :
  Calls Try.prog 61 #[.pointer (some ⟨g,0,none⟩),.agg (List.toArray ((kK c.f0 c.f1 (qL c.f2 (qL c.f3 (sL c.f4 (fL c.f5 (kS c.f6 (mL c.f7 [.slice c.f8.1 c.f8.2.1 c.f8.2.2])))))))))] w fun e w' => ∃ v',e = .returned (.tuple #[]) ∧ MkOwn w' base g a0 a1 a2 a3 a4 m pc b0 b1 b2 b3 b4 b5 b6 b7 b8 v' (l ++ [(⟨c.f0,pc,c.f2,c.f3,⟨m,pc,c.f4.f2⟩,c.f5,c.f6,c.f7,c.f8⟩ : CV)]) ∧ Below base w w' ∧ Kp w w' g v v':=by
 obtain ⟨n,hn⟩ : ∃ n,n = w.heap.size:=⟨_,rfl⟩
 have hlt:=blk_lt hm.b
 have hne : g ≠ n:=by omega
 have hgn : g < n:=by omega
 have hbn : base ≤ n:=by omega
 have hab:=below_alloc (Below.refl w.heap.size w) (Obj.cells (List.toArray ((kK c.f0 c.f1 (qL c.f2 (qL c.f3 (sL c.f4 (fL c.f5 (kS c.f6 (mL c.f7 [.slice c.f8.1 c.f8.2.1 c.f8.2.2]))))))))) 60)
 have HB0:=hm.hb
 have HMb:=aq ((hm.below hab hbz).b)
 have HRb : Aside0 ((w.alloc (Obj.cells (List.toArray ((kK c.f0 c.f1 (qL c.f2 (qL c.f3 (sL c.f4 (fL c.f5 (kS c.f6 (mL c.f7 [.slice c.f8.1 c.f8.2.1 c.f8.2.2]))))))))) 60)).heap[n]? = some (Obj.cells (List.toArray ((kK c.f0 c.f1 (qL c.f2 (qL c.f3 (sL c.f4 (fL c.f5 (kS c.f6 (mL c.f7 [.slice c.f8.1 c.f8.2.1 c.f8.2.2]))))))))) 60 (0,0))):=⟨by rw [hn];exact World.alloc_heap_new w _⟩
 have HRr : Aside0 (Kd.R kCV 60 (w.alloc (Obj.cells (List.toArray ((kK c.f0 c.f1 (qL c.f2 (qL c.f3 (sL c.f4 (fL c.f5 (kS c.f6 (mL c.f7 [.slice c.f8.1 c.f8.2.1 c.f8.2.2]))))))))) 60)) base (fun k => True ∧ k ≠ n) v l):=⟨by rw [hn];exact Kd.R_below (Kd.R_elderB hm.r w.heap.size (Nat.le_refl _)) hab⟩
 have HBe:=aq hab
 have hnn : w.heap.size ≤ n:=by omega
 have HBW:=aq hbz
 have HSz : Aside0 ((w.alloc (Obj.cells (List.toArray ((kK c.f0 c.f1 (qL c.f2 (qL c.f3 (sL c.f4 (fL c.f5 (kS c.f6 (mL c.f7 [.slice c.f8.1 c.f8.2.1 c.f8.2.2]))))))))) 60)).heap.size = n + 1):=⟨by rw [hn];exact World.size_alloc w _⟩
 have HLn : Aside0 ((l.length + 1) * 544 ≤ 140737488355328):=⟨by omega⟩
 have HVlt : Aside0 (∀ k,v.ownBlock = some k → k < n):=⟨fun k hk => by rw [hn];exact Kd.R_lt hm.r k hk⟩
 have HVne : Aside0 (some g ≠ v.ownBlock):=⟨Kd.R_ne hm.r hm.b (by decide)⟩
 have hkb : (c.f0 == 1) = true:=beq_iff_eq.2 hk
 clear hm hab hk
 go_enter Try.func61,Try.ntmps61
 go_wp2_with fail
 rw [← hn]
 clear hn
 generalize w.alloc (Obj.cells (List.toArray ((kK c.f0 c.f1 (qL c.f2 (qL c.f3 (sL c.f4 (fL c.f5 (kS c.f6 (mL c.f7 [.slice c.f8.1 c.f8.2.1 c.f8.2.2]))))))))) 60) = X0 at HMb HRb HRr HBe HSz ⊢
 generalize Value.agg (List.toArray ((kK c.f0 c.f1 (qL c.f2 (qL c.f3 (sL c.f4 (fL c.f5 (kS c.f6 (mL c.f7 [.slice c.f8.1 c.f8.2.1 c.f8.2.2]))))))))) = cv
 replace HMb : Aside0 (X0.drew.heap[g]? = some (Obj.cells #[a0,a1,a2,a3,a4,.string m.f0,.string m.f1,.string m.f2,.int .i64 pc,b0,b1,b2,b3,b4,b5,b6,b7,b8,v] 85 (0,0))):=⟨HMb.out⟩
 replace HRb : Aside0 (X0.drew.heap[n]? = some (Obj.cells (List.toArray ((kK c.f0 c.f1 (qL c.f2 (qL c.f3 (sL c.f4 (fL c.f5 (kS c.f6 (mL c.f7 [.slice c.f8.1 c.f8.2.1 c.f8.2.2]))))))))) 60 (0,0))):=⟨HRb.out⟩
 replace HRr : Aside0 (Kd.R kCV 60 X0.drew base (fun k => True ∧ k ≠ n) v l):=⟨by apply Kd.R_drew;exact HRr.out⟩
 replace HBe : Aside0 (Below w.heap.size w X0.drew):=⟨below_drew1 HBe.out⟩
 replace HSz : Aside0 (X0.drew.heap.size = n + 1):=⟨HSz.out⟩
 obtain ⟨e5,e6,e7,e8⟩ : X0.drew.cell? ⟨g,5,none⟩ = some (.string m.f0) ∧ X0.drew.cell? ⟨g,6,none⟩ = some (.string m.f1) ∧ X0.drew.cell? ⟨g,7,none⟩ = some (.string m.f2) ∧ X0.drew.cell? ⟨g,8,none⟩ = some (.int .i64 pc):=⟨blk_cell HMb.out 5,blk_cell HMb.out 6,blk_cell HMb.out 7,blk_cell HMb.out 8⟩
 obtain ⟨o1,o26,o27,o28⟩ : X0.drew.cell? ⟨n,1,none⟩ = some (.int .i64 c.f1) ∧ X0.drew.cell? ⟨n,26,none⟩ = some (.string c.f4.f0.f0) ∧ X0.drew.cell? ⟨n,27,none⟩ = some (.string c.f4.f0.f1) ∧ X0.drew.cell? ⟨n,28,none⟩ = some (.string c.f4.f0.f2):=⟨blk_cell HRb.out 1,blk_cell HRb.out 26,blk_cell HRb.out 27,blk_cell HRb.out 28⟩
 have hfr:=blk_frozen HRb.out
 refine start_ (n:=13) (S:=fun w' => w'.cell? ⟨g,5,none⟩ = some (.string m.f0) ∧ w'.cell? ⟨g,6,none⟩ = some (.string m.f1) ∧ w'.cell? ⟨g,7,none⟩ = some (.string m.f2) ∧ w'.cell? ⟨g,8,none⟩ = some (.int .i64 pc)) (ds:=[12]) (Array.replicate 13 false) (by kernel_rfl) rfl rfl ⟨e5,e6,e7,e8⟩ (fun hHeld => ?_)
 generalize X0.drew = X1 at HMb HRb HRr HBe HSz e5 e6 e7 e8 o1 o26 o27 o28 hfr hHeld ⊢
 refine sP (i:=0) (N:=some 4) ?_
 refine sP (i:=1) (N:=some 5) ?_
 refine sP (i:=2) (N:=some 6) ?_
 refine sP (i:=4) (N:=some 8) ?_
 refine sP (i:=5) (N:=some 9) ?_
 refine sP (i:=6) (N:=some 10) ?_
 refine sT (i:=3) (N:=some 7) hHeld ?_
 refine sP (i:=8) (N:=some 12) ?_
 refine sT (i:=7) (N:=some 11) hHeld ?_
 refine sO (i:=9) (N:=none) fun K hK => ?_
 refine skip_ (w1:=?_) (by rfl) rfl ?_ ?_
 rotate_left
 ·
  go_simp
  rfl
 refine hK.out _ _ ⟨((cell_far (p:=⟨n,1,none⟩) (a:=⟨g,5,none⟩) hne _).trans e5),((cell_far (p:=⟨n,1,none⟩) (a:=⟨g,6,none⟩) hne _).trans e6),((cell_far (p:=⟨n,1,none⟩) (a:=⟨g,7,none⟩) hne _).trans e7),((cell_far (p:=⟨n,1,none⟩) (a:=⟨g,8,none⟩) hne _).trans e8)⟩ (fun hHeld => ?_)
 clear hK K
 refine sP (i:=10) (N:=some 13) ?_
 refine sP (i:=11) (N:=some 14) ?_
 refine sX (i:=12) (N:=none) fun K hK => ?_
 refine skip_ (w1:=?_) (by rfl) rfl ?_ ?_
 rotate_left
 ·
  go_simp
  rfl
 refine hK.out _ _ ?_
 clear hK K
 refine done_ (by kernel_rfl) ?_
 have HMb:=aq (show ((((X1.setCell ⟨n,1,none⟩ (.int .i64 pc)).setCell ⟨n,26,none⟩ (.string m.f0)).setCell ⟨n,27,none⟩ (.string m.f1)).setCell ⟨n,28,none⟩ (.string m.f2)).heap[g]? = some (Obj.cells #[a0,a1,a2,a3,a4,.string m.f0,.string m.f1,.string m.f2,.int .i64 pc,b0,b1,b2,b3,b4,b5,b6,b7,b8,v] 85 (0,0)) from by rw [Below.heap_setCell _ _ _ _ hne,Below.heap_setCell _ _ _ _ hne,Below.heap_setCell _ _ _ _ hne,Below.heap_setCell _ _ _ _ hne];exact HMb.out)
 have HRb:=aq (show ((((X1.setCell ⟨n,1,none⟩ (.int .i64 pc)).setCell ⟨n,26,none⟩ (.string m.f0)).setCell ⟨n,27,none⟩ (.string m.f1)).setCell ⟨n,28,none⟩ (.string m.f2)).heap[n]? = some (Obj.cells (List.toArray ((kK c.f0 pc (qL c.f2 (qL c.f3 (sM m c.f4.f1 c.f4.f2 (fL c.f5 (kS c.f6 (mL c.f7 [.slice c.f8.1 c.f8.2.1 c.f8.2.2]))))))))) 60 (0,0)) from (blk_put (cs:=(List.toArray ((kK c.f0 pc (qL c.f2 (qL c.f3 ((.string m.f0) :: (.string m.f1) :: (.string c.f4.f0.f2) :: (.int .i64 c.f4.f1) :: (.string c.f4.f2) :: (fL c.f5 (kS c.f6 (mL c.f7 [.slice c.f8.1 c.f8.2.1 c.f8.2.2])))))))))) (blk_put (cs:=(List.toArray ((kK c.f0 pc (qL c.f2 (qL c.f3 ((.string m.f0) :: (.string c.f4.f0.f1) :: (.string c.f4.f0.f2) :: (.int .i64 c.f4.f1) :: (.string c.f4.f2) :: (fL c.f5 (kS c.f6 (mL c.f7 [.slice c.f8.1 c.f8.2.1 c.f8.2.2])))))))))) (blk_put (cs:=(List.toArray ((kK c.f0 pc (qL c.f2 (qL c.f3 (sL c.f4 (fL c.f5 (kS c.f6 (mL c.f7 [.slice c.f8.1 c.f8.2.1 c.f8.2.2])))))))))) (blk_put (cs:=(List.toArray ((kK c.f0 c.f1 (qL c.f2 (qL c.f3 (sL c.f4 (fL c.f5 (kS c.f6 (mL c.f7 [.slice c.f8.1 c.f8.2.1 c.f8.2.2])))))))))) HRb.out 1 (.int .i64 pc) rfl) 26 (.string m.f0) rfl) 27 (.string m.f1) rfl) 28 (.string m.f2) rfl))
 have HRr:=aq (show Kd.R kCV 60 ((((X1.setCell ⟨n,1,none⟩ (.int .i64 pc)).setCell ⟨n,26,none⟩ (.string m.f0)).setCell ⟨n,27,none⟩ (.string m.f1)).setCell ⟨n,28,none⟩ (.string m.f2)) base (fun k => True ∧ k ≠ n) v l from (Kd.R_far (p:=⟨n,28,none⟩) (Kd.R_far (p:=⟨n,27,none⟩) (Kd.R_far (p:=⟨n,26,none⟩) (Kd.R_far (p:=⟨n,1,none⟩) HRr.out (fun _ hk => hk.2) (.int .i64 pc)) (fun _ hk => hk.2) (.string m.f0)) (fun _ hk => hk.2) (.string m.f1)) (fun _ hk => hk.2) (.string m.f2)))
 have HBe:=aq (show Below w.heap.size w ((((X1.setCell ⟨n,1,none⟩ (.int .i64 pc)).setCell ⟨n,26,none⟩ (.string m.f0)).setCell ⟨n,27,none⟩ (.string m.f1)).setCell ⟨n,28,none⟩ (.string m.f2)) from ((((HBe.out.setCell hnn (.int .i64 pc)).setCell hnn (.string m.f0)).setCell hnn (.string m.f1)).setCell hnn (.string m.f2)))
 have HSz:=aq (show ((((X1.setCell ⟨n,1,none⟩ (.int .i64 pc)).setCell ⟨n,26,none⟩ (.string m.f0)).setCell ⟨n,27,none⟩ (.string m.f1)).setCell ⟨n,28,none⟩ (.string m.f2)).heap.size = n + 1 from by rw [World.size_setCell,World.size_setCell,World.size_setCell,World.size_setCell];exact HSz.out)
 generalize ((((X1.setCell ⟨n,1,none⟩ (.int .i64 pc)).setCell ⟨n,26,none⟩ (.string m.f0)).setCell ⟨n,27,none⟩ (.string m.f1)).setCell ⟨n,28,none⟩ (.string m.f2)) = W1 at HMb HRb HRr HBe HSz ⊢
 clear e5 e6 e7 e8 o1 o26 o27 o28 hfr hHeld
 have d0 : W1.cell? ⟨n,0,none⟩ = some (.int .i64 c.f0):=blk_cell HRb.out 0
 have e8 : W1.cell? ⟨g,8,none⟩ = some (.int .i64 pc):=blk_cell HMb.out 8
 have hfr:=blk_frozen HRb.out
 have o29 : W1.cell? ⟨n,29,none⟩ = some (.int .i64 c.f4.f1):=blk_cell HRb.out 29
 go_wp2_with fail
 have HMb:=aq (show (W1.setCell ⟨n,29,none⟩ (.int .i64 pc)).heap[g]? = some (Obj.cells #[a0,a1,a2,a3,a4,.string m.f0,.string m.f1,.string m.f2,.int .i64 pc,b0,b1,b2,b3,b4,b5,b6,b7,b8,v] 85 (0,0)) from by rw [Below.heap_setCell _ _ _ _ hne];exact HMb.out)
 have HRb:=aq (show (W1.setCell ⟨n,29,none⟩ (.int .i64 pc)).heap[n]? = some (Obj.cells (List.toArray ((kK c.f0 pc (qL c.f2 (qL c.f3 (sM m pc c.f4.f2 (fL c.f5 (kS c.f6 (mL c.f7 [.slice c.f8.1 c.f8.2.1 c.f8.2.2]))))))))) 60 (0,0)) from (blk_put (cs:=(List.toArray ((kK c.f0 pc (qL c.f2 (qL c.f3 (sM m c.f4.f1 c.f4.f2 (fL c.f5 (kS c.f6 (mL c.f7 [.slice c.f8.1 c.f8.2.1 c.f8.2.2])))))))))) HRb.out 29 (.int .i64 pc) rfl))
 have HRr:=aq (show Kd.R kCV 60 (W1.setCell ⟨n,29,none⟩ (.int .i64 pc)) base (fun k => True ∧ k ≠ n) v l from (Kd.R_far (p:=⟨n,29,none⟩) HRr.out (fun _ hk => hk.2) (.int .i64 pc)))
 have HBe:=aq (show Below w.heap.size w (W1.setCell ⟨n,29,none⟩ (.int .i64 pc)) from (HBe.out.setCell hnn (.int .i64 pc)))
 have HSz:=aq (show (W1.setCell ⟨n,29,none⟩ (.int .i64 pc)).heap.size = n + 1 from by rw [World.size_setCell];exact HSz.out)
 generalize (W1.setCell ⟨n,29,none⟩ (.int .i64 pc)) = W2 at HMb HRb HRr HBe HSz ⊢
 replace HMb : Aside0 (W2.drew.heap[g]? = some (Obj.cells #[a0,a1,a2,a3,a4,.string m.f0,.string m.f1,.string m.f2,.int .i64 pc,b0,b1,b2,b3,b4,b5,b6,b7,b8,v] 85 (0,0))):=⟨HMb.out⟩
 replace HRr : Aside0 (Kd.R kCV 60 W2.drew base (fun k => True ∧ k ≠ n) v l):=⟨by apply Kd.R_drew;exact HRr.out⟩
 replace HBe : Aside0 (Below w.heap.size w W2.drew):=⟨below_drew1 HBe.out⟩
 replace HSz : Aside0 (W2.drew.heap.size = n + 1):=⟨HSz.out⟩
 have q18 : W2.drew.cell? ⟨g,18,none⟩ = some v:=blk_cell HMb.out 18
 have qf : Aside0 (W2.drew.frozen? ⟨g,18,none⟩ = false):=⟨blk_frozen HMb.out 18⟩
 have rb : W2.drew.heap[n]? = some (Obj.cells (List.toArray ((kK c.f0 pc (qL c.f2 (qL c.f3 (sM m pc c.f4.f2 (fL c.f5 (kS c.f6 (mL c.f7 [.slice c.f8.1 c.f8.2.1 c.f8.2.2]))))))))) 60 (0,0)):=HRb.out
 have HBz : Aside0 (base ≤ W2.drew.heap.size):=⟨by have:=HSz.out;omega⟩
 have HGlt : Aside0 ((⟨g,18,none⟩ : Addr).block < W2.drew.heap.size):=⟨by have:=HSz.out;show g < W2.drew.heap.size;omega⟩
 have HPne : Aside0 (some n ≠ v.ownBlock):=⟨fun e => by have:=HVlt.out _ e.symm;omega⟩
 refine start_ (n:=11) (S:=fun w' => w'.cell? ⟨g,18,none⟩ = some v ∧ w'.heap[n]? = some (Obj.cells (List.toArray ((kK c.f0 pc (qL c.f2 (qL c.f3 (sM m pc c.f4.f2 (fL c.f5 (kS c.f6 (mL c.f7 [.slice c.f8.1 c.f8.2.1 c.f8.2.2]))))))))) 60 (0,0))) (ds:=[10]) (Array.replicate 11 false) (by kernel_rfl) rfl rfl ⟨q18,rb⟩ (fun hHeld => ?_)
 generalize W2.drew = X at HMb HRr HBe HSz HBz HGlt qf q18 rb hHeld ⊢
 refine sP (i:=0) (N:=some 24) ?_
 refine sP (i:=1) (N:=some 25) ?_
 refine sP (i:=2) (N:=some 26) ?_
 refine sP (i:=3) (N:=some 27) ?_
 refine sT (i:=4) (N:=some 28) hHeld ?_
 refine take_ (i:=5) (N:=some 29) (a':=?_) #[true,true,true,true,true,true,false,false,false,false,false] rfl rfl (by kernel_rfl) (fun _ _ _ h => h) (yieldsIf_load_mid (by rfl) 60 (.tmp 3) rfl n 0 rfl ((kK c.f0 pc (qL c.f2 (qL c.f3 (sM m pc c.f4.f2 (fL c.f5 (kS c.f6 (mL c.f7 [.slice c.f8.1 c.f8.2.1 c.f8.2.2])))))))) _ (fun w' hw' => rangeAt_blk hw'.2) Try.underlying60 rfl (by kernel_rfl)) hHeld ?_ ?_
 rotate_left
 ·
  simp only [Act.put,List.setIfInBounds_toArray,List.set_cons_zero,List.set_cons_succ,i64_w,i32_w]
  rfl
 refine sO (i:=6) (N:=some 30) fun K hK => ?_
 refine value_ (w1:=?_) (v:=?_) (by rfl) rfl ?_ ?_
 rotate_left 2
 ·
  go_simp
  constructor
  ·
   rfl
  ·
   rfl
 refine hK.out _ _ ⟨(((below_alloc (Below.refl _ _) _).cell (World.block_lt_of_cell? _ _ q18)).trans q18),(blk_alloc rb _)⟩ (fun hHeld => ?_)
 clear hK K
 refine sN ?_
 refine sO (i:=7) (N:=some 31) fun K hK => ?_
 refine Kd.R_append_step kCV (w0:=w) base (by rfl) _ _ 62 60 _ 544 rfl Try.underlying62 cons_info rfl (by decide) (by decide) v l (⟨c.f0,pc,c.f2,c.f3,⟨m,pc,c.f4.f2⟩,c.f5,c.f6,c.f7,c.f8⟩ : CV) ((kK c.f0 pc (qL c.f2 (qL c.f3 (sM m pc c.f4.f2 (fL c.f5 (kS c.f6 (mL c.f7 [.slice c.f8.1 c.f8.2.1 c.f8.2.2])))))))) (fun k => True ∧ k ≠ n) (fun _ => False) rfl (by rfl) (kCV_mkM _ _ _ (⟨c.f0,pc,c.f2,c.f3,⟨m,pc,c.f4.f2⟩,c.f5,c.f6,c.f7,c.f8⟩ : CV)) (fun _ hk => hk.elim) (fun k hk => ⟨trivial,by have:=HSz.out;omega⟩) HRr.out (HBe.out.mono HBW.out) HBz.out HLn.out ?_
 intro v' w2 hR2 hB2 hg2 hat2
 obtain ⟨Av,nv,cv,hv⟩ : ∃ A n c,v' = Value.slice A n c:=by obtain ⟨A,c,e⟩:=Kd.R_slice hR2;exact ⟨A,_,c,e⟩
 subst hv
 have HR2:=aq (Kd.R_mono hR2 (fun _ _ => trivial))
 have HB2:=aq hB2
 have HG2:=aq hg2
 have HT2:=aq hat2
 have q18':=hg2.cell q18 HVne.out
 have tf:=(hg2.frozen_far ⟨g,18,none⟩ HGlt.out HVne.out).trans qf.out
 have rb':=blk_grown rb hg2 HPne.out
 clear hR2 hB2 hg2 hat2
 refine hK.out _ _ ⟨q18',rb'⟩ (fun hHeld => ?_)
 clear hK K
 refine sN ?_
 refine sP (i:=8) (N:=some 32) ?_
 refine sP (i:=9) (N:=some 33) ?_
 refine sX (i:=10) (N:=none) fun K hK => ?_
 refine skip_ (w1:=?_) (by rfl) rfl ?_ ?_
 rotate_left
 ·
  go_simp
  rfl
 refine hK.out _ _ ?_
 clear hK K
 refine done_ (by kernel_rfl) ?_
 go_wp2_with fail
 have hfin:=MkOwn.put (w:=w) (MkOwn.mk HMb.out HB0 (Kd.R_mono HRr.out (fun _ _ => trivial))) HR2.out HG2.out HB2.out
 have hkp : Kp w (w2.setCell ⟨g,18,none⟩ (.slice Av nv cv)) g v (.slice Av nv cv):=Kp.mk' HBe.out HG2.out HT2.out
 first
  | exact bodyPost_end (v:=.tuple #[]) (by simp [results,Try.results61,go_sem]) rfl ⟨rfl,⟨_,hfin.1,hfin.2,hkp⟩⟩
  | exact bodyPost_end (v:=.tuple #[]) (by simp [results,Try.f61,go_sem]) rfl ⟨rfl,⟨_,hfin.1,hfin.2,hkp⟩⟩
  | exact bodyPost_ret (v:=.tuple #[]) (by simp [results,Try.results61,go_sem]) rfl ⟨rfl,⟨_,hfin.1,hfin.2,hkp⟩⟩
end Go.Proofs.Ytfplcohjnlbfjaa.HandV
end

section
namespace Go.Proofs.Ytfplcohjnlbfjaa.HandV
open Go.Proofs.Ytfplcohjnlbfjaa.Hand Go.RowKit Go.Proofs.YtfplcohjnlbfjaaW.PrintWords Go.Proofs.YtfplcohjnlbfjaaW.PrintLast Go.Proofs.YtfplcohjnlbfjaaW.PrintMore
theorem maker_flows (base g : Nat) (a0 a1 a2 a3 a4 : Value) (m : S25) (pc : Int) (b0 b1 b2 b3 b4 b5 b6 b7 b8 : Value) (v : Value) (l : List CV) (pt fr : S50) (cls : ByteArray) (w : World) (hm : MkOwn w base g a0 a1 a2 a3 a4 m pc b0 b1 b2 b3 b4 b5 b6 b7 b8 v l) (hl : l.length ≤ 1048576) (hbz : base ≤ w.heap.size) :
  Calls Try.prog 37 #[.pointer (some ⟨g,0,none⟩),.agg (List.toArray (qL pt [])),.agg (List.toArray (qL fr [])),.string cls] w fun e w' => ∃ v',e = .returned (.tuple #[]) ∧ MkOwn w' base g a0 a1 a2 a3 a4 m pc b0 b1 b2 b3 b4 b5 b6 b7 b8 v' (l ++ [(⟨2,pc,pt,fr,⟨m,0,⟨#[]⟩⟩,z44,cls,z25,noSl⟩ : CV)]) ∧ Below base w w' ∧ Kp w w' g v v':=by
 have hab:=below_alloc (below_alloc (Below.refl w.heap.size w) (Obj.cells (List.toArray (qL pt [])) 50)) (Obj.cells (List.toArray (qL fr [])) 50)
 have HP:=aq (put_plain base g a0 a1 a2 a3 a4 m pc b0 b1 b2 b3 b4 b5 b6 b7 b8 v l (⟨2,0,pt,fr,z46,z44,cls,z25,noSl⟩ : CV) ((w.alloc (Obj.cells (List.toArray (qL pt [])) 50)).alloc (Obj.cells (List.toArray (qL fr [])) 50)) (hm.below hab hbz) (show (2 : Int) ≠ 1 by decide) hl (Nat.le_trans hbz hab.size))
 have HB:=aq (hab.mono hbz)
 have HA:=aq hab
 clear hm hab
 go_enter Try.func37,Try.ntmps37
 go_wp2_with fail
 refine HP.out.mono ?_
 rintro e w2 ⟨v2,rfl,hm2,hb2,hk2⟩
 have HM2:=aq hm2
 have HB2:=aq (HB.out.trans hb2)
 have HK2:=aq (Kp.pre HA.out hk2)
 clear hm2 hb2 hk2
 go_wp2_with fail
 exact bodyPost_end (v:=.tuple #[]) (by simp [results,Try.results37,go_sem]) rfl (by first|exact ⟨rfl,⟨_,HM2.out,HB2.out,HK2.out⟩⟩|exact ⟨_,rfl,HM2.out,HB2.out,HK2.out⟩)
theorem maker_begins (base g : Nat) (a0 a1 a2 a3 a4 : Value) (m : S25) (pc : Int) (b0 b1 b2 b3 b4 b5 b6 b7 b8 : Value) (v : Value) (l : List CV) (cls : ByteArray) (w : World) (hm : MkOwn w base g a0 a1 a2 a3 a4 m pc b0 b1 b2 b3 b4 b5 b6 b7 b8 v l) (hl : l.length ≤ 1048576) (hbz : base ≤ w.heap.size) :
  Calls Try.prog 69 #[.pointer (some ⟨g,0,none⟩),.string cls] w fun e w' => ∃ v',e = .returned (.tuple #[]) ∧ MkOwn w' base g a0 a1 a2 a3 a4 m pc b0 b1 b2 b3 b4 b5 b6 b7 b8 v' (l ++ [(⟨7,pc,z50,z50,⟨m,0,⟨#[]⟩⟩,z44,cls,z25,noSl⟩ : CV)]) ∧ Below base w w' ∧ Kp w w' g v v':=by
 have HP:=aq (put_plain base g a0 a1 a2 a3 a4 m pc b0 b1 b2 b3 b4 b5 b6 b7 b8 v l (⟨7,0,z50,z50,z46,z44,cls,z25,noSl⟩ : CV) w hm (show (7 : Int) ≠ 1 by decide) hl hbz)
 clear hm
 go_enter Try.func69,Try.ntmps69
 go_wp2_with fail
 refine HP.out.mono ?_
 rintro e w2 ⟨v2,rfl,hm2,hb2,hk2⟩
 have HM2:=aq hm2
 have HB2:=aq hb2
 have HK2:=aq hk2
 clear hm2 hb2 hk2
 go_wp2_with fail
 exact bodyPost_end (v:=.tuple #[]) (by simp [results,Try.results69,go_sem]) rfl (by first|exact ⟨rfl,⟨_,HM2.out,HB2.out,HK2.out⟩⟩|exact ⟨_,rfl,HM2.out,HB2.out,HK2.out⟩)
theorem maker_fresh (base g : Nat) (a0 a1 a2 a3 a4 : Value) (m : S25) (pc : Int) (b0 b1 b2 b3 b4 b5 b6 b7 b8 : Value) (v : Value) (l : List CV) (ia : Int) (cls : ByteArray) (w : World) (hm : MkOwn w base g a0 a1 a2 a3 a4 m pc b0 (.int .i64 ia) b2 b3 b4 b5 b6 b7 b8 v l) (hl : l.length ≤ 1048576) (hbz : base ≤ w.heap.size) :
  Calls Try.prog 70 #[.pointer (some ⟨g,0,none⟩),.string cls] w fun e w' => ∃ v',e = .returned (.tuple #[]) ∧ MkOwn w' base g a0 a1 a2 a3 a4 m pc b0 (.int .i64 ia) b2 b3 b4 b5 b6 b7 b8 v' (l ++ [(⟨1,pc,(⟨1,m,ia,z44,z46⟩ : S50),z50,⟨m,pc,cls⟩,z44,⟨#[]⟩,z25,noSl⟩ : CV)]) ∧ Below base w w' ∧ Kp w w' g v v':=by
 have HR:=aq (maker_reg g a0 a1 a2 a3 a4 m pc b0 (.int .i64 ia) b2 b3 b4 b5 b6 b7 b8 v ia w hm.b)
 have e10 : w.cell? ⟨g,10,none⟩ = some (.int .i64 ia):=blk_cell hm.b 10
 have HM:=aq hm
 have HP:=aq (fun W (hb : Below w.heap.size w W) => put_has base g a0 a1 a2 a3 a4 m pc b0 (.int .i64 ia) b2 b3 b4 b5 b6 b7 b8 v l (⟨1,0,(⟨1,m,ia,z44,z46⟩ : S50),z50,⟨z25,0,cls⟩,z44,⟨#[]⟩,z25,noSl⟩ : CV) W (hm.below hb hbz) rfl hl (Nat.le_trans hbz hb.size))
 clear hm
 go_enter Try.func70,Try.ntmps70
 go_wp2_with fail
 refine HR.out.mono ?_
 rintro e w1 ⟨rfl,hb⟩
 have HB:=aq hb
 clear hb
 go_wp2_with fail
 refine (HP.out w1 HB.out).mono ?_
 rintro e w2 ⟨v2,rfl,hm2,hb2,hk2⟩
 have HM2:=aq hm2
 have HB2:=aq ((HB.out.mono hbz).trans hb2)
 have HK2:=aq (Kp.pre HB.out hk2)
 clear hm2 hb2 hk2
 go_wp2_with fail
 exact bodyPost_end (v:=.tuple #[]) (by simp [results,Try.results70,go_sem]) rfl (by first|exact ⟨rfl,⟨_,HM2.out,HB2.out,HK2.out⟩⟩|exact ⟨_,rfl,HM2.out,HB2.out,HK2.out⟩)
end Go.Proofs.Ytfplcohjnlbfjaa.HandV
end

section
namespace Go.Proofs.Ytfplcohjnlbfjaa.Q13
open Go.RowKit Go.Proofs.YtfplcohjnlbfjaaW
open PrintWords PrintLast PrintMore
attribute [local go_sem] max2_int min2_int max_two min_two max_three min_three max_four min_four
def errW : Option Int → Value
  | none => .nilIface
  | some c => .iface 0 (.int .i64 c)
theorem errW_none : errW none = .nilIface := rfl
theorem errW_some (c : Int) : errW (some c) = .iface 0 (.int .i64 c) := rfl
mutual
def word_letter.j0 : Nat → Int → Bool → Option (Bool)
  | 0,_,_ => none
  | k + 1,x0,x3 => if x3 = true then (some true) else (if x0 ≥ 65 then (word_letter.j1 k x0 (decide (x0 ≤ 90))) else (word_letter.j1 k x0 false))
def word_letter.j1 : Nat → Int → Bool → Option (Bool)
  | 0,_,_ => none
  | k + 1,x0,x8 => if x8 = true then (some true) else (if x0 ≥ 97 then (word_letter.j2 k x0 (decide (x0 ≤ 122))) else (word_letter.j2 k x0 false))
def word_letter.j2 : Nat → Int → Bool → Option (Bool)
  | 0,_,_ => none
  | k + 1,x0,x8 => if x8 = true then (some true) else (if x0 ≥ 48 then (if x0 ≤ 57 then (some true) else (some false)) else (some false))
end
def word_letter.f (k : Nat) (a0 : Int) : Option (Bool) := if a0 = 95 then (word_letter.j0 k a0 (a0 == 95)) else (word_letter.j0 k a0 (a0 == 36))
theorem word_letter.calls (k : Nat) (a0 : Int) (r : Bool) (w : World) (h : word_letter.f k a0 = some r) :
    Calls Try.prog 106 #[.int .u8 a0] w fun e w' => e = .returned (.bool r) ∧ Drawn0 w w':=by
 have H : (if a0 = 95 then (word_letter.j0 k a0 (a0 == 95)) else (word_letter.j0 k a0 (a0 == 36))) = some r:=h
 clear h
 have HC2:=aq H
 clear H
 go_enter Try.func106,Try.ntmps106
 go_upto_if 3 with (fail)
 go_cut [3] (fun v3 wc => ∃ (kq : Nat) (x3_1 : Bool),v3 = .bool x3_1 ∧ Aside0 (word_letter.j0 kq a0 x3_1 = some r) ∧ Aside0 (kq ≤ k) ∧ Drawn0 w wc)
 case first =>
  have H:=HC2.out
  clear HC2
  by_cases c3 : a0 = 95
  rotate_left
  · rw [if_neg c3] at H
    have c3b0 : (a0 == 95) = false:=beq_eq_false_iff_ne.mpr c3
    have c3b1 : (a0 != 95) = true:=bne_iff_ne.mpr c3
    (first|rw [c3b0]|rw [c3b1]|(simp only [i64_w,i32_w];rw [c3b0])|skip)
    have H':=aq H
    clear H
    go_wp2
    go_meet
    case rel => exact ⟨_,((a0 == 36)),eS,H',⟨by first|omega|exact Nat.le_refl _⟩,dR⟩
  rw [if_pos c3] at H
  have c3b0 : (a0 == 95) = true:=beq_iff_eq.mpr c3
  have c3b1 : (a0 != 95) = false:=bne_eq_false_iff_eq.mpr c3
  clear c3
  (first|rw [c3b0]|rw [c3b1]|(simp only [i64_w,i32_w];rw [c3b0])|skip)
  have H':=aq H
  clear H
  go_wp2
  go_meet
  case rel => exact ⟨_,((a0 == 95)),eS,H',⟨by first|omega|exact Nat.le_refl _⟩,dR⟩
 case rest =>
 clear HC2
 obtain ⟨kq,x3_1,rfl,HA,HJ1,⟨mc1,rfl⟩⟩:=hcut
 cases kq with
 | zero => exact absurd HA.out (by simp [word_letter.j0])
 | succ kj1 =>
 have H:=HA.out
 clear HA
 simp only [word_letter.j0] at H
 by_cases c4 : x3_1 = true
 · subst c4
   have H1 : (some true) = some r:=by rw [if_pos rfl] at H;exact H
   clear H
   have H:=H1
   clear H1
   obtain rfl:=Option.some.inj H
   go_wp2
   go_ret
   exact ⟨eS,dR⟩
 replace c4:=Bool.eq_false_iff.mpr c4
 subst c4
 have H1 : (if a0 ≥ 65 then (word_letter.j1 kj1 a0 (decide (a0 ≤ 90))) else (word_letter.j1 kj1 a0 false)) = some r:=by rw [if_neg (show ¬ (false = true) by decide)] at H;exact H
 clear H
 have H:=H1
 clear H1
 have HC5:=aq H
 clear H
 go_upto_region 3 with (fail)
 go_cut [8] (fun v8 wc => ∃ (kq : Nat) (x8_4 : Bool),v8 = .bool x8_4 ∧ Aside0 (word_letter.j1 kq a0 x8_4 = some r) ∧ Aside0 (kq ≤ kj1) ∧ Drawn0 w wc)
 case first =>
  have H:=HC5.out
  clear HC5
  by_cases c6 : a0 ≥ 65
  rotate_left
  · rw [if_neg c6] at H
    have c6b0 : decide (65 ≤ a0) = false:=decide_eq_false c6
    clear c6
    (first|rw [c6b0]|rw [c6b1]|(simp only [i64_w,i32_w];rw [c6b0])|skip)
    have H':=aq H
    clear H
    go_wp2
    go_meet
    case rel => exact ⟨_,(false),eS,H',⟨by have:=HJ1.out;first|omega|exact Nat.le_refl _⟩,dR⟩
  rw [if_pos c6] at H
  have c6b0 : decide (65 ≤ a0) = true:=decide_eq_true c6
  clear c6
  (first|rw [c6b0]|rw [c6b1]|(simp only [i64_w,i32_w];rw [c6b0])|skip)
  have H':=aq H
  clear H
  go_wp2
  go_meet
  case rel => exact ⟨_,(decide (a0 ≤ 90)),eS,H',⟨by have:=HJ1.out;first|omega|exact Nat.le_refl _⟩,dR⟩
 case rest =>
 clear HC5
 try clear c4
 obtain ⟨kq,x8_4,rfl,HA,HJ4,⟨mc4,rfl⟩⟩:=hcut
 cases kq with
 | zero => exact absurd HA.out (by simp [word_letter.j1])
 | succ kj4 =>
 have H:=HA.out
 clear HA
 simp only [word_letter.j1] at H
 by_cases c7 : x8_4 = true
 · subst c7
   have H1 : (some true) = some r:=by rw [if_pos rfl] at H;exact H
   clear H
   have H:=H1
   clear H1
   obtain rfl:=Option.some.inj H
   go_wp2
   go_ret
   exact ⟨eS,dR⟩
 replace c7:=Bool.eq_false_iff.mpr c7
 subst c7
 have H1 : (if a0 ≥ 97 then (word_letter.j2 kj4 a0 (decide (a0 ≤ 122))) else (word_letter.j2 kj4 a0 false)) = some r:=by rw [if_neg (show ¬ (false = true) by decide)] at H;exact H
 clear H
 have H:=H1
 clear H1
 have HC8:=aq H
 clear H
 go_upto_region 4 with (fail)
 go_cut [8] (fun v8 wc => ∃ (kq : Nat) (x8_7 : Bool),v8 = .bool x8_7 ∧ Aside0 (word_letter.j2 kq a0 x8_7 = some r) ∧ Aside0 (kq ≤ kj4) ∧ Drawn0 w wc)
 case first =>
  have H:=HC8.out
  clear HC8
  by_cases c9 : a0 ≥ 97
  rotate_left
  · rw [if_neg c9] at H
    have c9b0 : decide (97 ≤ a0) = false:=decide_eq_false c9
    clear c9
    (first|rw [c9b0]|rw [c9b1]|(simp only [i64_w,i32_w];rw [c9b0])|skip)
    have H':=aq H
    clear H
    go_wp2
    go_meet
    case rel => exact ⟨_,(false),eS,H',⟨by have:=HJ1.out;have:=HJ4.out;first|omega|exact Nat.le_refl _⟩,dR⟩
  rw [if_pos c9] at H
  have c9b0 : decide (97 ≤ a0) = true:=decide_eq_true c9
  clear c9
  (first|rw [c9b0]|rw [c9b1]|(simp only [i64_w,i32_w];rw [c9b0])|skip)
  have H':=aq H
  clear H
  go_wp2
  go_meet
  case rel => exact ⟨_,(decide (a0 ≤ 122)),eS,H',⟨by have:=HJ1.out;have:=HJ4.out;first|omega|exact Nat.le_refl _⟩,dR⟩
 case rest =>
 clear HC8
 (try clear c4);(try clear c7)
 obtain ⟨kq,x8_7,rfl,HA,HJ7,⟨mc7,rfl⟩⟩:=hcut
 cases kq with
 | zero => exact absurd HA.out (by simp [word_letter.j2])
 | succ kj7 =>
 have H:=HA.out
 clear HA
 simp only [word_letter.j2] at H
 by_cases c10 : x8_7 = true
 · subst c10
   have H1 : (some true) = some r:=by rw [if_pos rfl] at H;exact H
   clear H
   have H:=H1
   clear H1
   obtain rfl:=Option.some.inj H
   go_wp2
   go_ret
   exact ⟨eS,dR⟩
 replace c10:=Bool.eq_false_iff.mpr c10
 subst c10
 have H1 : (if a0 ≥ 48 then (if a0 ≤ 57 then (some true) else (some false)) else (some false)) = some r:=by rw [if_neg (show ¬ (false = true) by decide)] at H;exact H
 clear H
 have H:=H1
 clear H1
 by_cases c11 : a0 ≥ 48
 rotate_left
 · rw [if_neg c11] at H
   have c11b0 : decide (48 ≤ a0) = false:=decide_eq_false c11
   clear c11
   obtain rfl:=Option.some.inj H
   go_wp2
   go_ret
   exact ⟨eS,dR⟩
 rw [if_pos c11] at H
 have c11b0 : decide (48 ≤ a0) = true:=decide_eq_true c11
 clear c11
 by_cases c12 : a0 ≤ 57
 · rw [if_pos c12] at H
   have c12b0 : decide (a0 ≤ 57) = true:=decide_eq_true c12
   clear c12
   obtain rfl:=Option.some.inj H
   go_wp2
   go_ret
   exact ⟨eS,dR⟩
 rw [if_neg c12] at H
 have c12b0 : decide (a0 ≤ 57) = false:=decide_eq_false c12
 clear c12
 obtain rfl:=Option.some.inj H
 go_wp2
 go_ret
 exact ⟨eS,dR⟩
def sr04_letter.f (a0 : Int) : Option (Bool) := if a0 ≥ 65 then (if a0 ≤ 90 then (some true) else (if a0 ≥ 97 then (if a0 ≤ 122 then (some true) else (if a0 ≥ 48 then (if a0 ≤ 57 then (some true) else (if a0 = 95 then (some true) else (some (a0 == 36)))) else (if a0 = 95 then (some true) else (some (a0 == 36))))) else (if a0 ≥ 48 then (if a0 ≤ 57 then (some true) else (if a0 = 95 then (some true) else (some (a0 == 36)))) else (if a0 = 95 then (some true) else (some (a0 == 36)))))) else (if a0 ≥ 97 then (if a0 ≤ 122 then (some true) else (if a0 ≥ 48 then (if a0 ≤ 57 then (some true) else (if a0 = 95 then (some true) else (some (a0 == 36)))) else (if a0 = 95 then (some true) else (some (a0 == 36))))) else (if a0 ≥ 48 then (if a0 ≤ 57 then (some true) else (if a0 = 95 then (some true) else (some (a0 == 36)))) else (if a0 = 95 then (some true) else (some (a0 == 36)))))
theorem sr04_letter.calls (a0 : Int) (r : Bool) (w : World) (h : sr04_letter.f a0 = some r) :
    Calls Try.prog 95 #[.int .u8 a0] w fun e w' => e = .returned (.bool r) ∧ Drawn0 w w':=by
 have H : (if a0 ≥ 65 then (if a0 ≤ 90 then (some true) else (if a0 ≥ 97 then (if a0 ≤ 122 then (some true) else (if a0 ≥ 48 then (if a0 ≤ 57 then (some true) else (if a0 = 95 then (some true) else (some (a0 == 36)))) else (if a0 = 95 then (some true) else (some (a0 == 36))))) else (if a0 ≥ 48 then (if a0 ≤ 57 then (some true) else (if a0 = 95 then (some true) else (some (a0 == 36)))) else (if a0 = 95 then (some true) else (some (a0 == 36)))))) else (if a0 ≥ 97 then (if a0 ≤ 122 then (some true) else (if a0 ≥ 48 then (if a0 ≤ 57 then (some true) else (if a0 = 95 then (some true) else (some (a0 == 36)))) else (if a0 = 95 then (some true) else (some (a0 == 36))))) else (if a0 ≥ 48 then (if a0 ≤ 57 then (some true) else (if a0 = 95 then (some true) else (some (a0 == 36)))) else (if a0 = 95 then (some true) else (some (a0 == 36)))))) = some r:=h
 clear h
 by_cases c2 : a0 ≥ 65
 rotate_left
 · rw [if_neg c2] at H
   have c2b0 : decide (65 ≤ a0) = false:=decide_eq_false c2
   clear c2
   by_cases c14 : a0 ≥ 97
   rotate_left
   · rw [if_neg c14] at H
     have c14b0 : decide (97 ≤ a0) = false:=decide_eq_false c14
     clear c14
     by_cases c20 : a0 ≥ 48
     rotate_left
     · rw [if_neg c20] at H
       have c20b0 : decide (48 ≤ a0) = false:=decide_eq_false c20
       clear c20
       by_cases c23 : a0 = 95
       rotate_left
       · rw [if_neg c23] at H
         have c23b0 : (a0 == 95) = false:=beq_eq_false_iff_ne.mpr c23
         have c23b1 : (a0 != 95) = true:=bne_iff_ne.mpr c23
         obtain rfl:=Option.some.inj H
         go_enter Try.func95,Try.ntmps95
         go_wp2
         go_ret
         exact ⟨eS,dR⟩
       rw [if_pos c23] at H
       have c23b0 : (a0 == 95) = true:=beq_iff_eq.mpr c23
       have c23b1 : (a0 != 95) = false:=bne_eq_false_iff_eq.mpr c23
       clear c23
       obtain rfl:=Option.some.inj H
       go_enter Try.func95,Try.ntmps95
       go_wp2
       go_ret
       exact ⟨eS,dR⟩
     rw [if_pos c20] at H
     have c20b0 : decide (48 ≤ a0) = true:=decide_eq_true c20
     clear c20
     by_cases c21 : a0 ≤ 57
     · rw [if_pos c21] at H
       have c21b0 : decide (a0 ≤ 57) = true:=decide_eq_true c21
       clear c21
       obtain rfl:=Option.some.inj H
       go_enter Try.func95,Try.ntmps95
       go_wp2
       go_ret
       exact ⟨eS,dR⟩
     rw [if_neg c21] at H
     have c21b0 : decide (a0 ≤ 57) = false:=decide_eq_false c21
     clear c21
     by_cases c22 : a0 = 95
     rotate_left
     · rw [if_neg c22] at H
       have c22b0 : (a0 == 95) = false:=beq_eq_false_iff_ne.mpr c22
       have c22b1 : (a0 != 95) = true:=bne_iff_ne.mpr c22
       obtain rfl:=Option.some.inj H
       go_enter Try.func95,Try.ntmps95
       go_wp2
       go_ret
       exact ⟨eS,dR⟩
     rw [if_pos c22] at H
     have c22b0 : (a0 == 95) = true:=beq_iff_eq.mpr c22
     have c22b1 : (a0 != 95) = false:=bne_eq_false_iff_eq.mpr c22
     clear c22
     obtain rfl:=Option.some.inj H
     go_enter Try.func95,Try.ntmps95
     go_wp2
     go_ret
     exact ⟨eS,dR⟩
   rw [if_pos c14] at H
   have c14b0 : decide (97 ≤ a0) = true:=decide_eq_true c14
   clear c14
   by_cases c15 : a0 ≤ 122
   · rw [if_pos c15] at H
     have c15b0 : decide (a0 ≤ 122) = true:=decide_eq_true c15
     clear c15
     obtain rfl:=Option.some.inj H
     go_enter Try.func95,Try.ntmps95
     go_wp2
     go_ret
     exact ⟨eS,dR⟩
   rw [if_neg c15] at H
   have c15b0 : decide (a0 ≤ 122) = false:=decide_eq_false c15
   clear c15
   by_cases c16 : a0 ≥ 48
   rotate_left
   · rw [if_neg c16] at H
     have c16b0 : decide (48 ≤ a0) = false:=decide_eq_false c16
     clear c16
     by_cases c19 : a0 = 95
     rotate_left
     · rw [if_neg c19] at H
       have c19b0 : (a0 == 95) = false:=beq_eq_false_iff_ne.mpr c19
       have c19b1 : (a0 != 95) = true:=bne_iff_ne.mpr c19
       obtain rfl:=Option.some.inj H
       go_enter Try.func95,Try.ntmps95
       go_wp2
       go_ret
       exact ⟨eS,dR⟩
     rw [if_pos c19] at H
     have c19b0 : (a0 == 95) = true:=beq_iff_eq.mpr c19
     have c19b1 : (a0 != 95) = false:=bne_eq_false_iff_eq.mpr c19
     clear c19
     obtain rfl:=Option.some.inj H
     go_enter Try.func95,Try.ntmps95
     go_wp2
     go_ret
     exact ⟨eS,dR⟩
   rw [if_pos c16] at H
   have c16b0 : decide (48 ≤ a0) = true:=decide_eq_true c16
   clear c16
   by_cases c17 : a0 ≤ 57
   · rw [if_pos c17] at H
     have c17b0 : decide (a0 ≤ 57) = true:=decide_eq_true c17
     clear c17
     obtain rfl:=Option.some.inj H
     go_enter Try.func95,Try.ntmps95
     go_wp2
     go_ret
     exact ⟨eS,dR⟩
   rw [if_neg c17] at H
   have c17b0 : decide (a0 ≤ 57) = false:=decide_eq_false c17
   clear c17
   by_cases c18 : a0 = 95
   rotate_left
   · rw [if_neg c18] at H
     have c18b0 : (a0 == 95) = false:=beq_eq_false_iff_ne.mpr c18
     have c18b1 : (a0 != 95) = true:=bne_iff_ne.mpr c18
     obtain rfl:=Option.some.inj H
     go_enter Try.func95,Try.ntmps95
     go_wp2
     go_ret
     exact ⟨eS,dR⟩
   rw [if_pos c18] at H
   have c18b0 : (a0 == 95) = true:=beq_iff_eq.mpr c18
   have c18b1 : (a0 != 95) = false:=bne_eq_false_iff_eq.mpr c18
   clear c18
   obtain rfl:=Option.some.inj H
   go_enter Try.func95,Try.ntmps95
   go_wp2
   go_ret
   exact ⟨eS,dR⟩
 rw [if_pos c2] at H
 have c2b0 : decide (65 ≤ a0) = true:=decide_eq_true c2
 clear c2
 by_cases c3 : a0 ≤ 90
 · rw [if_pos c3] at H
   have c3b0 : decide (a0 ≤ 90) = true:=decide_eq_true c3
   clear c3
   obtain rfl:=Option.some.inj H
   go_enter Try.func95,Try.ntmps95
   go_wp2
   go_ret
   exact ⟨eS,dR⟩
 rw [if_neg c3] at H
 have c3b0 : decide (a0 ≤ 90) = false:=decide_eq_false c3
 clear c3
 by_cases c4 : a0 ≥ 97
 rotate_left
 · rw [if_neg c4] at H
   have c4b0 : decide (97 ≤ a0) = false:=decide_eq_false c4
   clear c4
   by_cases c10 : a0 ≥ 48
   rotate_left
   · rw [if_neg c10] at H
     have c10b0 : decide (48 ≤ a0) = false:=decide_eq_false c10
     clear c10
     by_cases c13 : a0 = 95
     rotate_left
     · rw [if_neg c13] at H
       have c13b0 : (a0 == 95) = false:=beq_eq_false_iff_ne.mpr c13
       have c13b1 : (a0 != 95) = true:=bne_iff_ne.mpr c13
       obtain rfl:=Option.some.inj H
       go_enter Try.func95,Try.ntmps95
       go_wp2
       go_ret
       exact ⟨eS,dR⟩
     rw [if_pos c13] at H
     have c13b0 : (a0 == 95) = true:=beq_iff_eq.mpr c13
     have c13b1 : (a0 != 95) = false:=bne_eq_false_iff_eq.mpr c13
     clear c13
     obtain rfl:=Option.some.inj H
     go_enter Try.func95,Try.ntmps95
     go_wp2
     go_ret
     exact ⟨eS,dR⟩
   rw [if_pos c10] at H
   have c10b0 : decide (48 ≤ a0) = true:=decide_eq_true c10
   clear c10
   by_cases c11 : a0 ≤ 57
   · rw [if_pos c11] at H
     have c11b0 : decide (a0 ≤ 57) = true:=decide_eq_true c11
     clear c11
     obtain rfl:=Option.some.inj H
     go_enter Try.func95,Try.ntmps95
     go_wp2
     go_ret
     exact ⟨eS,dR⟩
   rw [if_neg c11] at H
   have c11b0 : decide (a0 ≤ 57) = false:=decide_eq_false c11
   clear c11
   by_cases c12 : a0 = 95
   rotate_left
   · rw [if_neg c12] at H
     have c12b0 : (a0 == 95) = false:=beq_eq_false_iff_ne.mpr c12
     have c12b1 : (a0 != 95) = true:=bne_iff_ne.mpr c12
     obtain rfl:=Option.some.inj H
     go_enter Try.func95,Try.ntmps95
     go_wp2
     go_ret
     exact ⟨eS,dR⟩
   rw [if_pos c12] at H
   have c12b0 : (a0 == 95) = true:=beq_iff_eq.mpr c12
   have c12b1 : (a0 != 95) = false:=bne_eq_false_iff_eq.mpr c12
   clear c12
   obtain rfl:=Option.some.inj H
   go_enter Try.func95,Try.ntmps95
   go_wp2
   go_ret
   exact ⟨eS,dR⟩
 rw [if_pos c4] at H
 have c4b0 : decide (97 ≤ a0) = true:=decide_eq_true c4
 clear c4
 by_cases c5 : a0 ≤ 122
 · rw [if_pos c5] at H
   have c5b0 : decide (a0 ≤ 122) = true:=decide_eq_true c5
   clear c5
   obtain rfl:=Option.some.inj H
   go_enter Try.func95,Try.ntmps95
   go_wp2
   go_ret
   exact ⟨eS,dR⟩
 rw [if_neg c5] at H
 have c5b0 : decide (a0 ≤ 122) = false:=decide_eq_false c5
 clear c5
 by_cases c6 : a0 ≥ 48
 rotate_left
 · rw [if_neg c6] at H
   have c6b0 : decide (48 ≤ a0) = false:=decide_eq_false c6
   clear c6
   by_cases c9 : a0 = 95
   rotate_left
   · rw [if_neg c9] at H
     have c9b0 : (a0 == 95) = false:=beq_eq_false_iff_ne.mpr c9
     have c9b1 : (a0 != 95) = true:=bne_iff_ne.mpr c9
     obtain rfl:=Option.some.inj H
     go_enter Try.func95,Try.ntmps95
     go_wp2
     go_ret
     exact ⟨eS,dR⟩
   rw [if_pos c9] at H
   have c9b0 : (a0 == 95) = true:=beq_iff_eq.mpr c9
   have c9b1 : (a0 != 95) = false:=bne_eq_false_iff_eq.mpr c9
   clear c9
   obtain rfl:=Option.some.inj H
   go_enter Try.func95,Try.ntmps95
   go_wp2
   go_ret
   exact ⟨eS,dR⟩
 rw [if_pos c6] at H
 have c6b0 : decide (48 ≤ a0) = true:=decide_eq_true c6
 clear c6
 by_cases c7 : a0 ≤ 57
 · rw [if_pos c7] at H
   have c7b0 : decide (a0 ≤ 57) = true:=decide_eq_true c7
   clear c7
   obtain rfl:=Option.some.inj H
   go_enter Try.func95,Try.ntmps95
   go_wp2
   go_ret
   exact ⟨eS,dR⟩
 rw [if_neg c7] at H
 have c7b0 : decide (a0 ≤ 57) = false:=decide_eq_false c7
 clear c7
 by_cases c8 : a0 = 95
 rotate_left
 · rw [if_neg c8] at H
   have c8b0 : (a0 == 95) = false:=beq_eq_false_iff_ne.mpr c8
   have c8b1 : (a0 != 95) = true:=bne_iff_ne.mpr c8
   obtain rfl:=Option.some.inj H
   go_enter Try.func95,Try.ntmps95
   go_wp2
   go_ret
   exact ⟨eS,dR⟩
 rw [if_pos c8] at H
 have c8b0 : (a0 == 95) = true:=beq_iff_eq.mpr c8
 have c8b1 : (a0 != 95) = false:=bne_eq_false_iff_eq.mpr c8
 clear c8
 obtain rfl:=Option.some.inj H
 go_enter Try.func95,Try.ntmps95
 go_wp2
 go_ret
 exact ⟨eS,dR⟩
mutual
def sr04_all.j0 : Nat → ByteArray → Int → Bool → Option (Bool)
  | 0,_,_,_ => none
  | k + 1,x0,x1,x13 => if x13 = true then (some false) else (sr04_all.l0 k x0 x1 0)
def sr04_all.l0 : Nat → ByteArray → Int → Int → Option (Bool)
  | 0,_,_,_ => none
  | k + 1,x0,x1,x5 => if x5 < (x0.size : Int) then (if 0 ≤ x5 then ((sr04_letter.f (bt x0 x5)).bind fun t101 => (if t101 = true then (sr04_all.l0 k x0 x1 (wrap64 (x5 + 1))) else (if (bt x0 x5) = x1 then (sr04_all.l0 k x0 x1 (wrap64 (x5 + 1))) else (some false)))) else (none)) else (some true)
end
def sr04_all.f (k : Nat) (a0 : ByteArray) (a1 : Int) : Option (Bool) := if (a0.size : Int) < 1 then (sr04_all.j0 k a0 a1 true) else (sr04_all.j0 k a0 a1 (decide ((a0.size : Int) > 32)))
theorem sr04_all.calls (k : Nat) (a0 : ByteArray) (a1 : Int) (r : Bool) (w : World) (h : sr04_all.f k a0 a1 = some r) :
    Calls Try.prog 85 #[.string a0,.int .u8 a1] w fun e w' => e = .returned (.bool r) ∧ Drawn0 w w':=by
 have H : (if (a0.size : Int) < 1 then (sr04_all.j0 k a0 a1 true) else (sr04_all.j0 k a0 a1 (decide ((a0.size : Int) > 32)))) = some r:=h
 clear h
 have HC3:=aq H
 clear H
 go_enter Try.func85,Try.ntmps85
 go_upto_region 1 with (fail)
 go_cut [13] (fun v13 wc => ∃ (kq : Nat) (x13_2 : Bool),v13 = .bool x13_2 ∧ Aside0 (sr04_all.j0 kq a0 a1 x13_2 = some r) ∧ Aside0 (kq ≤ k) ∧ Drawn0 w wc)
 case first =>
  have H:=HC3.out
  clear HC3
  by_cases c4 : (a0.size : Int) < 1
  · rw [if_pos c4] at H
    have c4b0 : decide ((a0.size : Int) < 1) = true:=decide_eq_true c4
    have c4b1 : decide (a0.size < 1) = true:=decide_eq_true (by omega)
    clear c4
    (first|rw [c4b0]|rw [c4b1]|(simp only [i64_w,i32_w];rw [c4b0])|skip)
    have H':=aq H
    clear H
    go_wp2
    go_meet
    case rel => exact ⟨_,(true),eS,H',⟨by first|omega|exact Nat.le_refl _⟩,dR⟩
  rw [if_neg c4] at H
  have c4b0 : decide ((a0.size : Int) < 1) = false:=decide_eq_false c4
  have c4b1 : decide (a0.size < 1) = false:=decide_eq_false (by omega)
  clear c4
  (first|rw [c4b0]|rw [c4b1]|(simp only [i64_w,i32_w];rw [c4b0])|skip)
  have H':=aq H
  clear H
  go_wp2
  go_meet
  case rel => exact ⟨_,(decide ((a0.size : Int) > 32)),eS,H',⟨by first|omega|exact Nat.le_refl _⟩,dR⟩
 case rest =>
 clear HC3
 obtain ⟨kq,x13_2,rfl,HA,HJ2,⟨mc2,rfl⟩⟩:=hcut
 cases kq with
 | zero => exact absurd HA.out (by simp [sr04_all.j0])
 | succ kj2 =>
 have H:=HA.out
 clear HA
 simp only [sr04_all.j0] at H
 by_cases c5 : x13_2 = true
 · subst c5
   have H1 : (some false) = some r:=by rw [if_pos rfl] at H;exact H
   clear H
   have H:=H1
   clear H1
   obtain rfl:=Option.some.inj H
   go_wp2
   go_ret
   exact ⟨eS,dR⟩
 replace c5:=Bool.eq_false_iff.mpr c5
 subst c5
 have H1 : (sr04_all.l0 kj2 a0 a1 0) = some r:=by rw [if_neg (show ¬ (false = true) by decide)] at H;exact H
 clear H
 have H:=H1
 clear H1
 have H':=aq H
 clear H
 go_wp2
 go_loopg [5] kj2 (fun kq v5 w' => ∃ (x5_2 : Int),v5 = .int .i64 x5_2 ∧ Aside0 (sr04_all.l0 kq a0 a1 x5_2 = some r) ∧ Aside0 (kq ≤ kj2) ∧ Drawn0 w w')
 case atStart => exact ⟨(0),eS,H',⟨Nat.le_refl _⟩,dR⟩
 case round =>
 clear H'
 try clear c5
 obtain ⟨x5_2,rfl,HA,HK2,⟨m2,rfl⟩⟩:=hrel
 cases gk with
 | zero => exact absurd HA.out (by simp [sr04_all.l0])
 | succ k2 =>
 have H:=HA.out
 clear HA
 simp only [sr04_all.l0] at H
 by_cases c6 : x5_2 < (a0.size : Int)
 rotate_left
 · rw [if_neg c6] at H
   have c6b0 : decide (x5_2 < (a0.size : Int)) = false:=decide_eq_false c6
   clear c6
   obtain rfl:=Option.some.inj H
   go_wp2
   go_ret
   exact ⟨eS,dR⟩
 rw [if_pos c6] at H
 have c6b0 : decide (x5_2 < (a0.size : Int)) = true:=decide_eq_true c6
 clear c6
 by_cases c7 : 0 ≤ x5_2
 rotate_left
 · rw [if_neg c7] at H
   exact absurd H (by simp)
 rw [if_pos c7] at H
 have c7b0 : decide (0 ≤ x5_2) = true:=decide_eq_true c7
 clear c7
 replace H:=Option.bind_eq_some_iff.mp H
 obtain ⟨t101,A90,H⟩:=H
 have A9:=aq A90
 clear A90
 by_cases c10 : t101 = true
 · subst c10
   have H1 : (sr04_all.l0 k2 a0 a1 (wrap64 (x5_2 + 1))) = some r:=by rw [if_pos rfl] at H;exact H
   clear H
   have H:=H1
   clear H1
   have H':=aq H
   clear H
   have p8 : 0 ≤ (x5_2 : Int):=of_decide_eq_true aS
   have q8 : x5_2 < (a0.size : Int):=of_decide_eq_true aS
   have hx8:=bt_at a0 x5_2
   replace p8:=eq_true p8
   replace q8:=eq_true q8
   go_wp2_with (first|((with_reducible refine gate_callee (f:=95) rfl ?_);refine goesL_ (some 23) rfl rfl Try.func95 (by kernel_rfl) rfl #[.int .u8 (bt a0 x5_2)] rfl eA ?_;(with_reducible refine (sr04_letter.calls (bt a0 x5_2) true _ A9.out).mono ?_);rintro e w' ⟨rfl,⟨nd,rfl⟩⟩;refine ⟨_,rfl,?_⟩))
   go_roundg k2
   case measure => have:=HJ2.out;have:=HK2.out;omega
   case rel => exact ⟨(wrap64 (x5_2 + 1)),eS,H',⟨by have:=HJ2.out;have:=HK2.out;omega⟩,dR⟩
 replace c10:=Bool.eq_false_iff.mpr c10
 subst c10
 have H1 : (if (bt a0 x5_2) = a1 then (sr04_all.l0 k2 a0 a1 (wrap64 (x5_2 + 1))) else (some false)) = some r:=by rw [if_neg (show ¬ (false = true) by decide)] at H;exact H
 clear H
 have H:=H1
 clear H1
 by_cases c12 : (bt a0 x5_2) = a1
 rotate_left
 · rw [if_neg c12] at H
   have c12b0 : ((bt a0 x5_2) == a1) = false:=beq_eq_false_iff_ne.mpr c12
   have c12b1 : ((bt a0 x5_2) != a1) = true:=bne_iff_ne.mpr c12
   obtain rfl:=Option.some.inj H
   have p8 : 0 ≤ (x5_2 : Int):=of_decide_eq_true aS
   have q8 : x5_2 < (a0.size : Int):=of_decide_eq_true aS
   have hx8:=bt_at a0 x5_2
   replace p8:=eq_true p8
   replace q8:=eq_true q8
   go_wp2_with (first|((with_reducible refine gate_callee (f:=95) rfl ?_);refine goesL_ (some 23) rfl rfl Try.func95 (by kernel_rfl) rfl #[.int .u8 (bt a0 x5_2)] rfl eA ?_;(with_reducible refine (sr04_letter.calls (bt a0 x5_2) false _ A9.out).mono ?_);rintro e w' ⟨rfl,⟨nd,rfl⟩⟩;refine ⟨_,rfl,?_⟩;have p11 : 0 ≤ (x5_2 : Int):=of_decide_eq_true aS;have q11 : x5_2 < (a0.size : Int):=of_decide_eq_true aS;have hx11:=bt_at a0 x5_2;replace p11:=eq_true p11;replace q11:=eq_true q11))
   go_ret
   exact ⟨eS,dR⟩
 rw [if_pos c12] at H
 have c12b0 : ((bt a0 x5_2) == a1) = true:=beq_iff_eq.mpr c12
 have c12b1 : ((bt a0 x5_2) != a1) = false:=bne_eq_false_iff_eq.mpr c12
 clear c12
 have H':=aq H
 clear H
 have p8 : 0 ≤ (x5_2 : Int):=of_decide_eq_true aS
 have q8 : x5_2 < (a0.size : Int):=of_decide_eq_true aS
 have hx8:=bt_at a0 x5_2
 replace p8:=eq_true p8
 replace q8:=eq_true q8
 go_wp2_with (first|((with_reducible refine gate_callee (f:=95) rfl ?_);refine goesL_ (some 23) rfl rfl Try.func95 (by kernel_rfl) rfl #[.int .u8 (bt a0 x5_2)] rfl eA ?_;(with_reducible refine (sr04_letter.calls (bt a0 x5_2) false _ A9.out).mono ?_);rintro e w' ⟨rfl,⟨nd,rfl⟩⟩;refine ⟨_,rfl,?_⟩;have p11 : 0 ≤ (x5_2 : Int):=of_decide_eq_true aS;have q11 : x5_2 < (a0.size : Int):=of_decide_eq_true aS;have hx11:=bt_at a0 x5_2;replace p11:=eq_true p11;replace q11:=eq_true q11))
 go_roundg k2
 case measure => have:=HJ2.out;have:=HK2.out;omega
 case rel => exact ⟨(wrap64 (x5_2 + 1)),eS,H',⟨by have:=HJ2.out;have:=HK2.out;omega⟩,dR⟩
def sr04_Name.f (k : Nat) (a0 : ByteArray) : Option (Bool) := if a0.toList = ([60, 99, 108, 105, 110, 105, 116, 62] : List UInt8) then (some true) else ((sr04_all.f k a0 95).bind fun t102 => (some t102))
theorem sr04_Name.calls (k : Nat) (a0 : ByteArray) (r : Bool) (w : World) (h : sr04_Name.f k a0 = some r) :
    Calls Try.prog 64 #[.string a0] w fun e w' => e = .returned (.bool r) ∧ Drawn0 w w':=by
 have H : (if a0.toList = ([60,99,108,105,110,105,116,62] : List UInt8) then (some true) else ((sr04_all.f k a0 95).bind fun t102 => (some t102))) = some r:=h
 clear h
 by_cases c2 : a0.toList = ([60,99,108,105,110,105,116,62] : List UInt8)
 · rw [if_pos c2] at H
   have c2b0 : (a0.toList == ([60,99,108,105,110,105,116,62] : List UInt8)) = true:=beq_iff_eq.mpr c2
   have c2b1 : (a0.toList != ([60,99,108,105,110,105,116,62] : List UInt8)) = false:=bne_eq_false_iff_eq.mpr c2
   clear c2
   obtain rfl:=Option.some.inj H
   go_enter Try.func64,Try.ntmps64
   go_wp2
   go_ret
   exact ⟨eS,dR⟩
 rw [if_neg c2] at H
 have c2b0 : (a0.toList == ([60,99,108,105,110,105,116,62] : List UInt8)) = false:=beq_eq_false_iff_ne.mpr c2
 have c2b1 : (a0.toList != ([60,99,108,105,110,105,116,62] : List UInt8)) = true:=bne_iff_ne.mpr c2
 replace H:=Option.bind_eq_some_iff.mp H
 obtain ⟨t102,A30,H⟩:=H
 have A3:=aq A30
 clear A30
 obtain rfl:=Option.some.inj H
 go_enter Try.func64,Try.ntmps64
 go_wp2_with (first|(go_at_call 85;(with_reducible refine (sr04_all.calls k a0 95 t102 _ A3.out).mono ?_);rintro e w' ⟨rfl,⟨nd,rfl⟩⟩))
 go_ret
 exact ⟨eS,dR⟩
def sr04_Class.f (k : Nat) (a0 : ByteArray) : Option (Bool) := (sr04_all.f k a0 47).bind fun t103 => (some t103)
theorem sr04_Class.calls (k : Nat) (a0 : ByteArray) (r : Bool) (w : World) (h : sr04_Class.f k a0 = some r) :
    Calls Try.prog 63 #[.string a0] w fun e w' => e = .returned (.bool r) ∧ Drawn0 w w':=by
 have H : ((sr04_all.f k a0 47).bind fun t103 => (some t103)) = some r:=h
 clear h
 replace H:=Option.bind_eq_some_iff.mp H
 obtain ⟨t103,A20,H⟩:=H
 have A2:=aq A20
 clear A20
 obtain rfl:=Option.some.inj H
 go_enter Try.func63,Try.ntmps63
 go_wp2_with (first|((with_reducible refine gate_callee (f:=85) rfl ?_);refine goesL_ (some 4) rfl rfl Try.func85 (by kernel_rfl) rfl #[.string a0,.int .u8 47] rfl eA ?_;(with_reducible refine (sr04_all.calls k a0 47 t103 _ A2.out).mono ?_);rintro e w' ⟨rfl,⟨nd,rfl⟩⟩;refine ⟨_,rfl,?_⟩))
 go_ret
 exact ⟨eS,dR⟩
end Go.Proofs.Ytfplcohjnlbfjaa.Q13
end

section
namespace Go.Proofs
open Go.Shelf
def Try.lays145_ren : Go.Shelf.Ren := ⟨fun | 145 => 120 | 220 => 121 | 219 => 122 | 217 => 123 | 225 => 124 | 224 => 125 | 267 => 126 | 266 => 127 | 314 => 128 | n => n, fun | 9 => 9 | 4 => 4 | 59 => 153 | 3 => 3 | 5 => 5 | 46 => 158 | 146 => 160 | 51 => 159 | n => n, fun | 1 => 0 | n => n⟩
theorem Try.lays145 : Go.Proofs.Lays.n145 Try.prog Try.lays145_ren := {
 mixed:=by kernel_rfl
 f145:=Try.func120.trans (congrArg some (by kernel_rfl))
 f217:=Try.func123.trans (congrArg some (by kernel_rfl))
 f219:=Try.func122.trans (congrArg some (by kernel_rfl))
 f220:=Try.func121.trans (congrArg some (by kernel_rfl))
 f224:=Try.func125.trans (congrArg some (by kernel_rfl))
 f225:=Try.func124.trans (congrArg some (by kernel_rfl))
 f266:=Try.func127.trans (congrArg some (by kernel_rfl))
 f267:=Try.func126.trans (congrArg some (by kernel_rfl))
 f314:=Try.func128.trans (congrArg some (by kernel_rfl))
 t3:=Try.underlying3
 a3:=Try.isAgg3
 z3:=Try.sizeOf3
 v3:=Try.zeroValue3
 t4:=Try.underlying4
 a4:=Try.isAgg4
 z4:=Try.sizeOf4
 v4:=Try.zeroValue4
 t5:=Try.underlying5
 a5:=Try.isAgg5
 z5:=Try.sizeOf5
 v5:=Try.zeroValue5
 t9:=Try.underlying9
 a9:=Try.isAgg9
 z9:=Try.sizeOf9
 v9:=Try.zeroValue9
 t46:=Try.underlying158
 a46:=Try.isAgg158
 z46:=Try.sizeOf158
 v46:=Try.zeroValue158
 t51:=Try.underlying159
 a51:=Try.isAgg159
 z51:=Try.sizeOf159
 v51:=Try.zeroValue159
 t59:=Try.underlying153
 a59:=Try.isAgg153
 z59:=Try.sizeOf153
 v59:=Try.zeroValue153
 t146:=Try.underlying160
 a146:=Try.isAgg160
 z146:=Try.sizeOf160
 v146:=Try.zeroValue160
 g1:=by kernel_rfl }
open Go.RowKit Go.Lib in
theorem Try.strings_Cut (s sep : ByteArray) (m : Int) (w : World) (hs : s.size < 4294967281) (hm : w.cell? ⟨0, 0, none⟩ = some (.int .i64 m)) :
  Calls Try.prog 120 #[.string s,.string sep] w fun e w' => e = .returned (.tuple #[.string ⟨(Lib.cut s.data.toList sep.data.toList).1.toArray⟩,.string ⟨(Lib.cut s.data.toList sep.data.toList).2.1.toArray⟩,.bool (Lib.cut s.data.toList sep.data.toList).2.2]) ∧ ∃ n,w' = w.drewN n:=Any.strings_Cut Try.lays145 s sep m w hs hm
def Try.laysM145_ren : Go.Shelf.Ren := ⟨fun | 145 => 120 | 220 => 121 | 219 => 122 | 217 => 123 | 225 => 124 | 224 => 125 | 267 => 126 | 266 => 127 | 314 => 128 | n => n, fun | 9 => 9 | 4 => 4 | 59 => 153 | 3 => 3 | 5 => 5 | 46 => 158 | 146 => 160 | 51 => 159 | n => n, fun | 1 => 0 | n => n⟩
theorem Try.laysM145 : Go.Proofs.LaysM.n145 Try.prog Try.laysM145_ren := {
 mixed:=by kernel_rfl
 f145:=Try.func120.trans (congrArg some (by kernel_rfl))
 f217:=Try.func123.trans (congrArg some (by kernel_rfl))
 f219:=Try.func122.trans (congrArg some (by kernel_rfl))
 f220:=Try.func121.trans (congrArg some (by kernel_rfl))
 f224:=Try.func125.trans (congrArg some (by kernel_rfl))
 f225:=Try.func124.trans (congrArg some (by kernel_rfl))
 f266:=Try.func127.trans (congrArg some (by kernel_rfl))
 f267:=Try.func126.trans (congrArg some (by kernel_rfl))
 f314:=Try.func128.trans (congrArg some (by kernel_rfl))
 t3:=Try.underlying3
 a3:=Try.isAgg3
 z3:=Try.sizeOf3
 v3:=Try.zeroValue3
 t4:=Try.underlying4
 a4:=Try.isAgg4
 z4:=Try.sizeOf4
 v4:=Try.zeroValue4
 t5:=Try.underlying5
 a5:=Try.isAgg5
 z5:=Try.sizeOf5
 v5:=Try.zeroValue5
 t9:=Try.underlying9
 a9:=Try.isAgg9
 z9:=Try.sizeOf9
 v9:=Try.zeroValue9
 t46:=Try.underlying158
 a46:=Try.isAgg158
 z46:=Try.sizeOf158
 v46:=Try.zeroValue158
 t51:=Try.underlying159
 a51:=Try.isAgg159
 z51:=Try.sizeOf159
 v51:=Try.zeroValue159
 t59:=Try.underlying153
 a59:=Try.isAgg153
 z59:=Try.sizeOf153
 v59:=Try.zeroValue153
 t146:=Try.underlying160
 a146:=Try.isAgg160
 z146:=Try.sizeOf160
 v146:=Try.zeroValue160
 g1:=by kernel_rfl
 i3:=by kernel_rfl
 i4:=by kernel_rfl
 i5:=by kernel_rfl
 i9:=by kernel_rfl
 i46:=by kernel_rfl
 i51:=by kernel_rfl
 i59:=by kernel_rfl
 i146:=by kernel_rfl
 m1:=by kernel_rfl
 s1_3:=fun w h => Go.Proofs.cell_of_shapedOpen_int (zero:=#[.int .i64 0]) (t:=3) h (of_decide_eq_true (by kernel_rfl)) (by kernel_rfl) rfl (by kernel_rfl) (by kernel_rfl) Try.underlying3 }
end Go.Proofs
end

section
namespace Go.Proofs.Ytfplcohjnlbfjaa.Hand
open Go.RowKit Go.Proofs.YtfplcohjnlbfjaaW
open PrintWords PrintLast PrintMore
theorem wrap_in {x : Int} (h0 : -9223372036854775808 ≤ x) (h1 : x < 9223372036854775808) : wrap64 x = x := by
  unfold wrap64
  omega
theorem drawn_trans {a b c : World} (h : Drawn0 a b) (k : Drawn0 b c) : Drawn0 a c := by
  obtain ⟨n,rfl⟩:=h
  obtain ⟨m,rfl⟩:=k
  exact ⟨⟨n + m,World.drewN_drewN ..⟩⟩
def ofL (p : Int → Bool) (l : List UInt8) : Bool := l.all (fun b => p (b.toNat : Int)) && decide (0 < l.length ∧ l.length ≤ 32)
theorem word_of_walk (g : Nat) (eg : ∀ args w, (callFunc g args).run Try.prog w = .ok (.enter g args) w) (p : Int → Bool) (s : ByteArray) (w : World)
    (hg : ∀ (W : World) (c : Int),0 ≤ c → c ≤ 255 → Calls Try.prog g #[.int .u8 c] W fun e w' => e = .returned (.bool (p c)) ∧ Drawn0 W w') (hs : s.size ≤ 9223372036854775807) :
    Calls Try.prog 104 #[.string s,.func (.func g) #[] #[]] w fun e w' => e = .returned (.bool (ofL p s.data.toList)) ∧ Drawn0 w w':=by
  have HG:=aq hg
  have HS:=aq hs
  clear hg hs
  go_enter Try.func104,Try.ntmps104
  go_wp2_with fail
  go_loopg [8] s.size (fun kq v8 wr => ∃ i : Nat,v8 = .int .i64 (i : Int) ∧ i + kq = s.size ∧ Aside0 ((s.data.toList.take i).all (fun b => p (b.toNat : Int)) = true) ∧ Drawn0 w wr)
  case atStart => exact ⟨0,rfl,by omega,⟨rfl⟩,Drawn0.refl _⟩
  case round =>
    obtain ⟨i,rfl,hk,HA,HD⟩:=hrel
    by_cases hi : i < s.size
    · have hi1 : decide ((i : Int) < (s.size : Int)) = true:=decide_eq_true (by omega)
      have hi2 : decide (i < s.size) = true:=decide_eq_true hi
      have hi0 : decide (0 ≤ (i : Int)) = true:=decide_eq_true (by omega)
      have he : wrap64 ((i : Int) + 1) = ((i + 1 : Nat) : Int):=by have:=HS.out;rw [wrap_in (by omega) (by omega)];push_cast;rfl
      have hbt:=bt_at s (i : Int)
      have hi3 : (0 ≤ (i : Int)) = True:=eq_true (by omega)
      have hi4 : ((i : Int) < (s.size : Int)) = True:=eq_true (by omega)
      go_wp2_with fail
      have hc : (s[i].toNat : Int) ≤ 255:=by have:=s[i].toNat_lt;omega
      refine (HG.out wr _ (by omega) hc).mono ?_
      rintro e w2 ⟨rfl,hd⟩
      have HD2 : Drawn0 w w2:=drawn_trans HD hd
      clear hd HD
      generalize hb : p (s[i].toNat : Int) = b
      have hget : s.data.toList[i]? = some s[i]:=by
        rw [List.getElem?_eq_getElem (by rw [Array.length_toList];exact hi),Array.getElem_toList]
        rfl
      cases b with
      | true =>
        have HA2 : Aside0 ((s.data.toList.take (i + 1)).all (fun b => p (b.toNat : Int)) = true):=⟨by
          rw [List.take_add_one,hget,List.all_append,HA.out]
          simp [hb]⟩
        go_wp2
        go_roundg (gk - 1)
        case measure => omega
        case rel => exact ⟨i + 1,by rw [he],by omega,HA2,HD2⟩
      | false =>
        have HN : Aside0 (ofL p s.data.toList = false):=⟨by
          unfold ofL
          rw [show s.data.toList.all (fun b => p (b.toNat : Int)) = false from by
            rw [Bool.eq_false_iff]
            intro h
            have:=List.all_eq_true.1 h s[i] (List.mem_of_getElem? hget)
            rw [hb] at this
            cases this]
          rfl⟩
        clear hget
        go_wp2
        go_ret
        exact ⟨by rw [HN.out];rfl,HD2⟩
    · obtain rfl : i = s.size:=by omega
      have hi1 : decide ((s.size : Int) < (s.size : Int)) = false:=decide_eq_false (by omega)
      have hall : s.data.toList.all (fun b => p (b.toNat : Int)) = true:=by
        have:=HA.out
        rwa [List.take_of_length_le (by rw [Array.length_toList];exact Nat.le_refl _)] at this
      have HV : Aside0 (ofL p s.data.toList = (!s.toList.isEmpty && decide ((s.size : Int) ≤ 32))):=⟨by
        unfold ofL
        rw [hall,ByteArray.toList_eq,Bool.true_and,Array.length_toList,Bool.decide_and]
        have e1 : decide (0 < s.data.size) = !s.data.toList.isEmpty:=by
          cases h : s.data.toList with
          | nil => have : s.data.size = 0:=by rw [← Array.length_toList,h];rfl
                   rw [this];rfl
          | cons x l => have : s.data.size = l.length + 1:=by rw [← Array.length_toList,h];rfl
                        rw [this];simp
        rw [e1]
        congr 1
        show decide (s.size ≤ 32) = decide ((s.size : Int) ≤ 32)
        simp only [decide_eq_decide]
        omega⟩
      clear hi hall
      go_wp2
      · rename_i h0
        go_ret
        exact ⟨by rw [HV.out,h0];rfl,HD⟩
      · go_ret
        exact ⟨by rw [HV.out];rfl,HD⟩
def letterI (c : Int) : Bool := decide (65 ≤ c ∧ c ≤ 90) || decide (97 ≤ c ∧ c ≤ 122) || decide (48 ≤ c ∧ c ≤ 57) || decide (c = 95) || decide (c = 36)
def word_letter.f (a0 : Int) : Option Bool := some (letterI a0)
def sr04_letter.f (a0 : Int) : Option Bool := some (letterI a0)
theorem letter_eq (c : Int) : Q13.word_letter.f 4 c = some (letterI c) := by
 unfold Q13.word_letter.f letterI
 simp only [Q13.word_letter.j0,Q13.word_letter.j1,Q13.word_letter.j2]
 by_cases h1 : c = 95
 ·
  subst h1;decide
 by_cases h2 : c = 36
 ·
  subst h2;decide
 by_cases h3 : 65 ≤ c <;> by_cases h4 : c ≤ 90 <;> by_cases h5 : 97 ≤ c <;> by_cases h6 : c ≤ 122 <;> by_cases h7 : 48 ≤ c <;> by_cases h8 : c ≤ 57 <;> simp [*] <;> omega
theorem letterR_eq (c : Int) : Q13.sr04_letter.f c = some (letterI c) := by
 unfold Q13.sr04_letter.f letterI
 by_cases h1 : c = 95
 ·
  subst h1;decide
 by_cases h2 : c = 36
 ·
  subst h2;decide
 by_cases h3 : 65 ≤ c <;> by_cases h4 : c ≤ 90 <;> by_cases h5 : 97 ≤ c <;> by_cases h6 : c ≤ 122 <;> by_cases h7 : 48 ≤ c <;> by_cases h8 : c ≤ 57 <;> simp [*] <;> omega
theorem word_letter.calls (a0 : Int) (r : Bool) (w : World) (h : word_letter.f a0 = some r) :
  Calls Try.prog 106 #[.int .u8 a0] w fun e w' => e = .returned (.bool r) ∧ Drawn0 w w':=Q13.word_letter.calls 4 a0 r w ((letter_eq a0).trans h)
theorem sr04_letter.calls (a0 : Int) (r : Bool) (w : World) (h : sr04_letter.f a0 = some r) :
  Calls Try.prog 95 #[.int .u8 a0] w fun e w' => e = .returned (.bool r) ∧ Drawn0 w w':=Q13.sr04_letter.calls a0 r w ((letterR_eq a0).trans h)
def slashL (c : Int) : Bool := letterI c || decide (c = 47)
def initL : List UInt8 := [60, 99, 108, 105, 110, 105, 116, 62]
def nameL (l : List UInt8) : Bool := decide (l = initL) || ofL letterI l
def classL (l : List UInt8) : Bool := ofL slashL l
def word_Class.f (s : ByteArray) : Option Bool := if s.size ≤ 9223372036854775807 then some (classL s.data.toList) else none
theorem word_slash (c : Int) (w : World) : Calls Try.prog 105 #[.int .u8 c] w fun e w' => e = .returned (.bool (slashL c)) ∧ Drawn0 w w' := by
 obtain ⟨b,hb⟩ : ∃ b,b = letterI c:=⟨_,rfl⟩
 have HL:=aq (word_letter.calls c b w (by unfold word_letter.f;rw [hb]))
 have HV : Aside0 (slashL c = (b || decide (c = 47))):=⟨by unfold slashL;rw [hb]⟩
 clear hb
 go_enter Try.func105,Try.ntmps105
 go_wp2_with fail
 refine HL.out.mono ?_
 rintro e w1 ⟨rfl,hd⟩
 cases b with
 | true =>
  go_wp2
  go_ret
  exact ⟨by rw [HV.out];rfl,hd⟩
 | false =>
  go_wp2
  go_ret
  exact ⟨by rw [HV.out];first|rfl|simp,hd⟩
theorem word_Class.calls (a0 : ByteArray) (r : Bool) (w : World) (h : word_Class.f a0 = some r) :
  Calls Try.prog 99 #[.string a0] w fun e w' => e = .returned (.bool r) ∧ Drawn0 w w':=by
 unfold word_Class.f at h
 split at h
 ·
  rename_i hs
  obtain rfl:=Option.some.inj h
  have HW:=aq (word_of_walk 105 (by intro args w;rfl) slashL a0 w (fun W c _ _ => word_slash c W) hs)
  clear h hs
  go_enter Try.func99,Try.ntmps99
  go_wp2_with fail
  refine HW.out.mono ?_
  rintro e w1 ⟨rfl,hd⟩
  go_wp2
  go_ret
  exact ⟨rfl,hd⟩
 ·
  cases h
def moreL (m : Int) (c : Int) : Bool := letterI c || decide (c = m)
theorem get_data (s : ByteArray) (i : Nat) (h : i < s.size) : s.data.toList[i]'(by rw [Array.length_toList]; exact h) = s[i] := by
 rw [Array.getElem_toList];rfl
theorem drop_data (s : ByteArray) (i : Nat) (h : i < s.size) : s.data.toList.drop i = s[i] :: s.data.toList.drop (i + 1) := by
 rw [List.drop_eq_getElem_cons (by rw [Array.length_toList];exact h),get_data s i h]
theorem bt_nat (s : ByteArray) (i : Nat) (h : i < s.size) : bt s (i : Int) = (s[i].toNat : Int) := by
 unfold bt
 rw [dif_pos (by simpa using h)]
 rfl
theorem all_loop (s : ByteArray) (m : Int) (hs : s.size ≤ 9223372036854775806) : ∀ (d i k : Nat), s.size - i = d → i ≤ s.size → d < k → Q13.sr04_all.l0 k s m i = some ((s.data.toList.drop i).all (fun b => moreL m (b.toNat : Int))) := by
 intro d
 induction d with
 | zero =>
  intro i k hd hi hk
  obtain ⟨k,rfl⟩ : ∃ j,k = j + 1:=⟨k - 1,by omega⟩
  rw [Q13.sr04_all.l0,if_neg (by omega),List.drop_of_length_le (by rw [Array.length_toList];show s.size ≤ i;omega)]
  rfl
 | succ d ih =>
  intro i k hd hi hk
  obtain ⟨k,rfl⟩ : ∃ j,k = j + 1:=⟨k - 1,by omega⟩
  have hlt : i < s.size:=by omega
  have ih:=ih (i + 1) k (by omega) (by omega) (by omega)
  push_cast at ih
  have e1 : sr04_letter.f (bt s i) = some (letterI (bt s i)):=rfl
  have e0 : Q13.sr04_letter.f (bt s i) = some (letterI (bt s i)):=letterR_eq _
  rw [Q13.sr04_all.l0,if_pos (by omega),if_pos (by omega),e0,Option.bind_some,wrap_in (by omega) (by omega),ih,drop_data s i hlt,List.all_cons,bt_nat s i hlt]
  unfold moreL
  cases letterI (s[i].toNat : Int) with
  | true => simp
  | false =>
   by_cases h : (s[i].toNat : Int) = m
   ·
    simp [h]
   ·
    simp [h]
theorem all_eq (s : ByteArray) (m : Int) (hs : s.size ≤ 9223372036854775806) : Q13.sr04_all.f (s.size + 2) s m = some (ofL (moreL m) s.data.toList) := by
 unfold Q13.sr04_all.f ofL
 have hl : s.data.toList.length = s.size:=by rw [Array.length_toList];rfl
 rw [hl]
 by_cases h1 : (s.size : Int) < 1
 ·
  rw [if_pos h1,Q13.sr04_all.j0,if_pos rfl,decide_eq_false (show ¬ (0 < s.size ∧ s.size ≤ 32) by omega),Bool.and_false]
 ·
  rw [if_neg h1,Q13.sr04_all.j0]
  by_cases h2 : (s.size : Int) > 32
  ·
   rw [if_pos (decide_eq_true h2),decide_eq_false (show ¬ (0 < s.size ∧ s.size ≤ 32) by omega),Bool.and_false]
  ·
   rw [if_neg (by rw [decide_eq_false h2];decide),decide_eq_true (show 0 < s.size ∧ s.size ≤ 32 by omega),Bool.and_true]
   exact all_loop s m hs s.size 0 (s.size + 1) rfl (by omega) (by omega)
theorem ofL_letter (l : List UInt8) : ofL (moreL 95) l = ofL letterI l := by
 have : moreL 95 = letterI:=by
  funext c
  unfold moreL
  by_cases h : c = 95
  ·
   subst h;decide
  ·
   rw [decide_eq_false h,Bool.or_false]
 rw [this]
def sr04_Name.f (s : ByteArray) : Option Bool := if s.size ≤ 9223372036854775806 then some (nameL s.data.toList) else none
def sr04_Class.f (s : ByteArray) : Option Bool := if s.size ≤ 9223372036854775806 then some (classL s.data.toList) else none
theorem classR_eq (s : ByteArray) (hs : s.size ≤ 9223372036854775806) : Q13.sr04_Class.f (s.size + 2) s = some (classL s.data.toList) := by
 unfold Q13.sr04_Class.f
 rw [all_eq s 47 hs]
 rfl
theorem nameR_eq (s : ByteArray) (hs : s.size ≤ 9223372036854775806) : Q13.sr04_Name.f (s.size + 2) s = some (nameL s.data.toList) := by
 unfold Q13.sr04_Name.f nameL initL
 rw [all_eq s 95 hs,ofL_letter,ByteArray.toList_eq]
 by_cases h : s.data.toList = [60,99,108,105,110,105,116,62]
 ·
  rw [if_pos h,decide_eq_true h,Bool.true_or]
 ·
  rw [if_neg h,decide_eq_false h,Bool.false_or]
  rfl
theorem sr04_Name.calls (a0 : ByteArray) (r : Bool) (w : World) (h : sr04_Name.f a0 = some r) :
  Calls Try.prog 64 #[.string a0] w fun e w' => e = .returned (.bool r) ∧ Drawn0 w w':=by
 unfold sr04_Name.f at h
 split at h
 ·
  rename_i hs
  exact Q13.sr04_Name.calls _ a0 r w ((nameR_eq a0 hs).trans h)
 ·
  cases h
theorem sr04_Class.calls (a0 : ByteArray) (r : Bool) (w : World) (h : sr04_Class.f a0 = some r) :
  Calls Try.prog 63 #[.string a0] w fun e w' => e = .returned (.bool r) ∧ Drawn0 w w':=by
 unfold sr04_Class.f at h
 split at h
 ·
  rename_i hs
  exact Q13.sr04_Class.calls _ a0 r w ((classR_eq a0 hs).trans h)
 ·
  cases h
theorem extract_size (s : ByteArray) (a b : Nat) : (s.extract a b).size ≤ s.size := by
 rw [ByteArray.size_extract]
 omega
end Go.Proofs.Ytfplcohjnlbfjaa.Hand
end

section
namespace Go.Proofs.Ytfplcohjnlbfjaa.Hand
def bl (s : ByteArray) : List UInt8 := s.data.toList
def lb (l : List UInt8) : ByteArray := ⟨l.toArray⟩
@[simp] theorem bl_lb (l : List UInt8) : bl (lb l) = l := rfl
@[simp] theorem lb_bl (s : ByteArray) : lb (bl s) = s := by cases s; simp [lb, bl]
theorem bl_inj {a b : ByteArray} (h : bl a = bl b) : a = b := by rw [← lb_bl a, ← lb_bl b, h]
theorem bl_len (s : ByteArray) : (bl s).length = s.size := by unfold bl; rw [Array.length_toList]; rfl
end Go.Proofs.Ytfplcohjnlbfjaa.Hand
end

section
namespace Go.Proofs.Ytfplcohjnlbfjaa.Hand
section
variable (cls : List UInt8 → Bool)
abbrev Ty := Int × List UInt8
def rightT (t : Ty) : Bool := if t.1 = 3 ∨ t.1 = 5 then cls t.2 else decide (t.2 = [] ∧ 1 ≤ t.1 ∧ t.1 ≤ 5)
def textT (t : Ty) : List UInt8 :=
 if rightT cls t = true then (if t.1 = 1 then [86] else if t.1 = 2 then [73] else if t.1 = 3 then 76 :: (t.2 ++ [59]) else if t.1 = 4 then [91,73] else 91 :: 76 :: (t.2 ++ [59])) else []
def untilL (b : UInt8) : List UInt8 → Option (List UInt8 × List UInt8)
 | [] => none
 | x :: r => if x = b then some ([],r) else (untilL b r).map fun p => (x :: p.1,p.2)
def classT (k : Int) (r : List UInt8) : Option (Ty × List UInt8) := match untilL 59 r with
 | some (n,r') => if cls n = true then some ((k,n),r') else none
 | none => none
def flatT (d : Int) : List UInt8 → Option (Ty × List UInt8)
 | [] => none
 | x :: r => if x = 86 then (if d = 0 then some ((1,[]),r) else none) else if x = 73 then some ((2 + d,[]),r) else if x = 76 then classT cls (3 + d) r else none
def oneT : List UInt8 → Option (Ty × List UInt8)
 | [] => none
 | x :: r => if x = 91 then flatT cls 2 r else flatT cls 0 (x :: r)
def parseT (l : List UInt8) : Ty × Int := match oneT cls l with
 | some (t,[]) => (t,0)
 | _ => ((0,[]),1)
theorem until_some {b : UInt8} : ∀ (l n r : List UInt8), untilL b l = some (n, r) → l = n ++ b :: r ∧ b ∉ n
 | [],n,r,h => by simp [untilL] at h
 | x :: l,n,r,h => by
  unfold untilL at h
  split at h
  ·
   rename_i e
   simp at h
   obtain ⟨rfl,rfl⟩:=h
   simp [e]
  ·
   rename_i hx
   obtain ⟨⟨a,b'⟩,h1,h2⟩:=Option.map_eq_some_iff.1 h
   simp at h2
   obtain ⟨rfl,rfl⟩:=h2
   obtain ⟨h3,h4⟩:=until_some l a b' h1
   refine ⟨by rw [h3];rfl,?_⟩
   simp only [List.mem_cons,not_or]
   exact ⟨fun e => hx e.symm,h4⟩
variable {cls} (hcls : ∀ n, cls n = true → 59 ∉ n)
include hcls
omit hcls in
theorem right_cases {t : Ty} (h : rightT cls t = true) : (t.1 = 1 ∧ t.2 = []) ∨ (t.1 = 2 ∧ t.2 = []) ∨ (t.1 = 3 ∧ cls t.2 = true) ∨ (t.1 = 4 ∧ t.2 = []) ∨ (t.1 = 5 ∧ cls t.2 = true) := by
 unfold rightT at h
 split at h
 ·
  rename_i e
  rcases e with e|e
  ·
   exact .inr (.inr (.inl ⟨e,h⟩))
  ·
   exact .inr (.inr (.inr (.inr ⟨e,h⟩)))
 ·
  rename_i e
  have h:=of_decide_eq_true h
  have : t.1 = 1 ∨ t.1 = 2 ∨ t.1 = 4:=by omega
  rcases this with e|e|e <;> simp [e,h.1]
omit hcls in
theorem classT_back {k : Int} {l : List UInt8} {t : Ty} {r : List UInt8} (h : classT cls k l = some (t, r)) : t.1 = k ∧ cls t.2 = true ∧ l = t.2 ++ 59 :: r := by
 unfold classT at h
 split at h
 ·
  rename_i n r' e
  split at h
  ·
   rename_i hc
   simp at h
   obtain ⟨rfl,rfl⟩:=h
   exact ⟨rfl,hc,(until_some _ _ _ e).1⟩
  ·
   cases h
 ·
  cases h
omit hcls in
theorem flat_back0 {l : List UInt8} {t : Ty} {r : List UInt8} (h : flatT cls 0 l = some (t, r)) : rightT cls t = true ∧ l = textT cls t ++ r := by
 cases l with
 | nil => cases h
 | cons x l =>
  rw [flatT] at h
  by_cases e : x = 86
  ·
   rw [if_pos e,if_pos rfl] at h
   simp at h
   obtain ⟨rfl,rfl⟩:=h
   subst e
   exact ⟨rfl,rfl⟩
  ·
   rw [if_neg e] at h
   by_cases e : x = 73
   ·
    rw [if_pos e] at h
    simp at h
    obtain ⟨rfl,rfl⟩:=h
    subst e
    exact ⟨rfl,rfl⟩
   ·
    rw [if_neg e] at h
    by_cases e : x = 76
    ·
     rw [if_pos e] at h
     subst e
     obtain ⟨h1,h2,h3⟩:=classT_back h
     obtain ⟨k,c⟩:=t
     simp only at h1 h2 h3
     subst h1
     have hr : rightT cls (3 + 0,c) = true:=by unfold rightT;simp [h2]
     refine ⟨hr,?_⟩
     unfold textT
     rw [if_pos hr,h3]
     simp
    ·
     rw [if_neg e] at h
     cases h
omit hcls in
theorem flat_back2 {l : List UInt8} {t : Ty} {r : List UInt8} (h : flatT cls 2 l = some (t, r)) : rightT cls t = true ∧ 91 :: l = textT cls t ++ r := by
 cases l with
 | nil => cases h
 | cons x l =>
  rw [flatT] at h
  by_cases e : x = 86
  ·
   rw [if_pos e,if_neg (by decide)] at h
   cases h
  ·
   rw [if_neg e] at h
   by_cases e : x = 73
   ·
    rw [if_pos e] at h
    simp at h
    obtain ⟨rfl,rfl⟩:=h
    subst e
    exact ⟨rfl,rfl⟩
   ·
    rw [if_neg e] at h
    by_cases e : x = 76
    ·
     rw [if_pos e] at h
     subst e
     obtain ⟨h1,h2,h3⟩:=classT_back h
     obtain ⟨k,c⟩:=t
     simp only at h1 h2 h3
     subst h1
     have hr : rightT cls (3 + 2,c) = true:=by unfold rightT;simp [h2]
     refine ⟨hr,?_⟩
     unfold textT
     rw [if_pos hr,h3]
     simp
    ·
     rw [if_neg e] at h
     cases h
omit hcls in
theorem one_back {l : List UInt8} {t : Ty} {r : List UInt8} (h : oneT cls l = some (t, r)) : rightT cls t = true ∧ l = textT cls t ++ r := by
 cases l with
 | nil => cases h
 | cons x l =>
  rw [oneT] at h
  by_cases e : x = 91
  ·
   rw [if_pos e] at h
   subst e
   exact flat_back2 h
  ·
   rw [if_neg e] at h
   exact flat_back0 h
variable (cls)
def paramT (t : Ty) : Bool := rightT cls t && decide (t.1 ≠ 1)
def typesF : Nat → List UInt8 → Option (List Ty × List UInt8)
 | 0,_ => none
 | f + 1,l => if l.head? = some 41 then some ([],l.tail) else match oneT cls l with
  | some (t,r) => if t.1 = 1 then none else (typesF f r).map fun p => (t :: p.1,p.2)
  | none => none
def splitD (l : List UInt8) : List Ty × Ty × Int :=
 if l.length > 64 then ([],(0,[]),3) else if l.head? = some 40 then (match typesF cls 65 l.tail with
  | some (ps,r) => (match oneT cls r with
   | some (t,[]) => if ps.length ≤ 8 then (ps,t,0) else ([],(0,[]),3)
   | _ => ([],(0,[]),1))
  | none => ([],(0,[]),1)) else ([],(0,[]),1)
variable {cls}
omit hcls in
theorem text_ne {t : Ty} (h : rightT cls t = true) : ∃ x r, textT cls t = x :: r ∧ x ≠ 41 := by
 unfold textT
 rw [if_pos h]
 split
 ·
  exact ⟨_,_,rfl,by decide⟩
 ·
  split
  ·
   exact ⟨_,_,rfl,by decide⟩
  ·
   split
   ·
    exact ⟨_,_,rfl,by decide⟩
   ·
    split
    ·
     exact ⟨_,_,rfl,by decide⟩
    ·
     exact ⟨_,_,rfl,by decide⟩
variable (cls)
variable {cls}
end
end Go.Proofs.Ytfplcohjnlbfjaa.Hand
end

section
namespace Go.Proofs.Ytfplcohjnlbfjaa.Hand
open Go.RowKit Go.Shelf Go.Proofs.YtfplcohjnlbfjaaW.PrintWords Go.Proofs.YtfplcohjnlbfjaaW.PrintLast Go.Proofs.YtfplcohjnlbfjaaW.PrintMore
theorem bt_bl (s : ByteArray) (i : Nat) (h : i < s.size) : ∃ b, (bl s)[i]? = some b ∧ bt s i = (b.toNat : Int) ∧ (bl s).drop i = b :: (bl s).drop (i + 1) := by
 refine ⟨s[i],?_,bt_nat s i h,drop_data s i h⟩
 unfold bl
 rw [List.getElem?_eq_getElem (by rw [Array.length_toList];exact h),get_data s i h]
theorem cut_until (c : UInt8) : ∀ l : List UInt8, Lib.cut l [c] = match untilL c l with | some (n, r) => (n, r, true) | none => (l, [], false)
 | [] => by simp [Lib.cut,Lib.index,untilL]
 | b :: l => by
  have ih:=cut_until c l
  have hge:=Lib.index_ge l [c]
  unfold Lib.cut at ih ⊢
  rw [Lib.index]
  by_cases h : b = c
  ·
   subst h
   have : List.isPrefixOf [b] (b :: l) = true:=by simp [List.isPrefixOf]
   rw [if_pos this]
   simp [untilL]
  ·
   have hp : List.isPrefixOf [c] (b :: l) = false:=by simp [List.isPrefixOf];exact fun e => h e.symm
   rw [hp]
   simp only [Bool.false_eq_true,if_false]
   by_cases hi : Lib.index l [c] = -1
   ·
    rw [hi] at ih ⊢
    simp only [beq_self_eq_true,if_true] at ih ⊢
    rw [if_neg (by decide)] at ih
    rw [if_neg (by decide)]
    cases hu : untilL c l with
    | none => rw [untilL,if_neg h,hu];rfl
    | some p => rw [hu] at ih;simp at ih
   ·
    have hb : (Lib.index l [c] == -1) = false:=beq_eq_false_iff_ne.2 hi
    rw [hb]
    simp only [Bool.false_eq_true,if_false]
    rw [if_pos (by omega)] at ih
    rw [if_pos (by omega)]
    cases hu : untilL c l with
    | none => rw [hu] at ih;simp at ih
    | some p =>
     rw [hu] at ih
     simp only [Prod.mk.injEq,and_true] at ih
     rw [untilL,if_neg h,hu]
     have e : (Lib.index l [c] + 1).toNat = (Lib.index l [c]).toNat + 1:=by omega
     simp only [Option.map_some,Prod.mk.injEq,and_true]
     rw [e,List.take_succ_cons,ih.1]
     refine ⟨rfl,?_⟩
     rw [show (Lib.index l [c]).toNat + 1 + [c].length = ((Lib.index l [c]).toNat + [c].length) + 1 from by omega,List.drop_succ_cons]
     exact ih.2
def MaxL (w : World) : Prop := ∃ m, w.cell? ⟨0, 0, none⟩ = some (.int .i64 m)
theorem max_below {w w' : World} (h : MaxL w) (hb : Below w.heap.size w w') : MaxL w' := by
 obtain ⟨m,hm⟩:=h
 exact ⟨m,pw_cell_below hb hm⟩
theorem MaxL.below {w w' : World} (h : MaxL w) (hb : Below w.heap.size w w') : MaxL w' := max_below h hb
theorem MaxL.drawn {w w' : World} (h : MaxL w) (hd : Drawn0 w w') : MaxL w' := max_below h hd.below
theorem grown_drewN (w : World) (n b : Nat) : w.grownBy (w.drewN n) (some b) := grown_of_below (pw_below_drewN (Below.refl _ w) n) _
end Go.Proofs.Ytfplcohjnlbfjaa.Hand
end

section
namespace Go.Proofs.Ytfplcohjnlbfjaa.Q8
open Go.RowKit Go.Proofs.YtfplcohjnlbfjaaW
open PrintWords PrintLast PrintMore Go.Proofs.Ytfplcohjnlbfjaa.Hand
attribute [local go_sem] max2_int min2_int max_two min_two max_three min_three max_four min_four
def errW : Option Int → Value
  | none => .nilIface
  | some c => .iface 0 (.int .i64 c)
theorem errW_none : errW none = .nilIface := rfl
theorem errW_some (c : Int) : errW (some c) = .iface 0 (.int .i64 c) := rfl
theorem info97 : (Try.prog.info? 97).map (fun i => (i.zero, i.size, i.bytes)) = some (some (.agg #[(.int .i64 0), (.string ⟨#[]⟩)]), 2, 24) := by kernel_rfl
mutual
def sr06_next.j0 : Nat → ByteArray → Int → Bool → Option (Int × ByteArray × Int × Bool)
  | 0,_,_,_ => none
  | k + 1,x0,x1,x7 => if x7 = true then (sr06_next.j1 k x0 (wrap64 (x1 + 1)) x7) else (sr06_next.j1 k x0 x1 x7)
def sr06_next.j1 : Nat → ByteArray → Int → Bool → Option (Int × ByteArray × Int × Bool)
  | 0,_,_,_ => none
  | k + 1,x0,x1,x7 => if x1 ≥ (x0.size : Int) then (some (0,(⟨#[]⟩ : ByteArray),0,false)) else (if 0 ≤ x1 then (if x1 < (x0.size : Int) then (if (bt x0 x1) = 86 then (some (1,(⟨#[]⟩ : ByteArray),wrap64 (x1 + 1),!x7)) else (if (bt x0 x1) = 73 then (if x7 = true then (some (4,(⟨#[]⟩ : ByteArray),wrap64 (x1 + 1),true)) else (some (2,(⟨#[]⟩ : ByteArray),wrap64 (x1 + 1),true))) else (if (bt x0 x1) = 76 then (sr06_next.l0 k x0 x1 x7 x1) else (some (0,(⟨#[]⟩ : ByteArray),0,false))))) else (none)) else (none))
def sr06_next.j3 : Nat → ByteArray → Int → Bool → Int → Option (Int × ByteArray × Int × Bool)
  | 0,_,_,_,_ => none
  | k + 1,x0,x1,x7,x8 => if x8 ≥ (x0.size : Int) then (sr06_next.j4 k x0 x1 x7 x8 true) else (if 0 ≤ (wrap64 (x1 + 1)) then (if (wrap64 (x1 + 1)) ≤ x8 then (if x8 ≤ (x0.size : Int) then ((sr04_Class.f (x0.extract ((wrap64 (x1 + 1)) : Int).toNat (x8 : Int).toNat)).bind fun t102 => (sr06_next.j4 k x0 x1 x7 x8 (!t102))) else (none)) else (none)) else (none))
def sr06_next.j4 : Nat → ByteArray → Int → Bool → Int → Bool → Option (Int × ByteArray × Int × Bool)
  | 0,_,_,_,_,_ => none
  | k + 1,x0,x1,x7,x8,x75 => if x75 = true then (some (0,(⟨#[]⟩ : ByteArray),0,false)) else (if 0 ≤ (wrap64 (x1 + 1)) then (if (wrap64 (x1 + 1)) ≤ x8 then (if x8 ≤ (x0.size : Int) then (if x7 = true then (some (5,x0.extract ((wrap64 (x1 + 1)) : Int).toNat (x8 : Int).toNat,wrap64 (x8 + 1),true)) else (some (3,x0.extract ((wrap64 (x1 + 1)) : Int).toNat (x8 : Int).toNat,wrap64 (x8 + 1),true))) else (none)) else (none)) else (none))
def sr06_next.l0 : Nat → ByteArray → Int → Bool → Int → Option (Int × ByteArray × Int × Bool)
  | 0,_,_,_,_ => none
  | k + 1,x0,x1,x7,x8 => if x8 < (x0.size : Int) then (if 0 ≤ x8 then (if (bt x0 x8) = 59 then (sr06_next.j3 k x0 x1 x7 x8) else (sr06_next.l0 k x0 x1 x7 (wrap64 (x8 + 1)))) else (none)) else (sr06_next.j3 k x0 x1 x7 x8)
end
def sr06_next.f (k : Nat) (a0 : ByteArray) (a1 : Int) : Option (Int × ByteArray × Int × Bool) := if a1 < (a0.size : Int) then (if 0 ≤ a1 then (sr06_next.j0 k a0 a1 ((bt a0 a1) == 91)) else (none)) else (sr06_next.j0 k a0 a1 false)
theorem sr06_next.calls (k : Nat) (a0 : ByteArray) (a1 : Int) (r1 : Int) (r2 : ByteArray) (r3 : Int) (r4 : Bool) (w : World) (h : sr06_next.f k a0 a1 = some (r1, r2, r3, r4)) :
    Calls Try.prog 77 #[.string a0,.int .i64 a1] w fun e w' => e = .returned (.tuple #[.agg #[.int .i64 r1,.string r2],.int .i64 r3,.bool r4]) ∧ Below w.heap.size w w':=by
 have hu97:=Try.underlying97
 have HB:=aq (Below.refl w.heap.size w)
 have H : (if a1 < (a0.size : Int) then (if 0 ≤ a1 then (sr06_next.j0 k a0 a1 ((bt a0 a1) == 91)) else (none)) else (sr06_next.j0 k a0 a1 false)) = some (r1,r2,r3,r4):=h
 clear h
 have HC3:=aq H
 clear H
 go_enter Try.func77,Try.ntmps77
 go_upto_region 1 with (first|((with_reducible refine gate_dst (N:=4) rfl ?_);refine box_event rfl (N:=4) rfl (cs:=#[.int .i64 0,.string (⟨#[]⟩ : ByteArray)]) (t:=97) gS ?_;intro gb101 hg w4 hbox hb;have BK101:=aq (hbox);have GE101:=aq ((GN hg : w.heap.size ≤ gb101));replace HB:=aq (below_step bH hb);clear hb hbox hg))
 (try simp only [Act.put,List.setIfInBounds_toArray,List.set_cons_zero,List.set_cons_succ])
 go_cut [7] (fun v7 wc => ∃ (kq : Nat) (x7_2 : Bool),v7 = .bool x7_2 ∧ Aside0 (sr06_next.j0 kq a0 a1 x7_2 = some (r1,r2,r3,r4)) ∧ Aside0 (kq ≤ k) ∧ Aside0 (wc.heap[gb101]? = some (.cells #[.int .i64 0,.string (⟨#[]⟩ : ByteArray)] 97 (0,0))) ∧ Aside0 (Below w.heap.size w wc))
 case first =>
  have H:=HC3.out
  clear HC3
  by_cases c5 : a1 < (a0.size : Int)
  rotate_left
  · rw [if_neg c5] at H
    have c5b0 : decide (a1 < (a0.size : Int)) = false:=decide_eq_false c5
    clear c5
    (first|rw [c5b0]|rw [c5b1]|(simp only [i64_w,i32_w];rw [c5b0])|skip)
    have H':=aq H
    clear H
    go_wp2
    go_meet
    case rel => exact ⟨_,(false),eS,H',⟨by first|omega|exact Nat.le_refl _⟩,⟨KU BK101.out⟩,⟨bH⟩⟩
  rw [if_pos c5] at H
  have c5b0 : decide (a1 < (a0.size : Int)) = true:=decide_eq_true c5
  clear c5
  (first|rw [c5b0]|rw [c5b1]|(simp only [i64_w,i32_w];rw [c5b0])|skip)
  by_cases c6 : 0 ≤ a1
  rotate_left
  · rw [if_neg c6] at H
    exact absurd H (by simp)
  rw [if_pos c6] at H
  have c6b0 : decide (0 ≤ a1) = true:=decide_eq_true c6
  clear c6
  have H':=aq H
  clear H
  have p7 : 0 ≤ (a1 : Int):=of_decide_eq_true aS
  have q7 : a1 < (a0.size : Int):=of_decide_eq_true aS
  have hx7:=bt_at a0 a1
  replace p7:=eq_true p7
  replace q7:=eq_true q7
  go_wp2
  go_meet
  case rel => exact ⟨_,(((bt a0 a1) == 91)),eS,H',⟨by first|omega|exact Nat.le_refl _⟩,⟨KU BK101.out⟩,⟨bH⟩⟩
 case rest =>
 clear HC3
 obtain ⟨kq,x7_2,rfl,HA,HJ2,BK101,HB⟩:=hcut
 cases kq with
 | zero => exact absurd HA.out (by simp [sr06_next.j0])
 | succ kj2 =>
 have H:=HA.out
 clear HA
 simp only [sr06_next.j0] at H
 have HC8:=aq H
 clear H
 go_upto_if 20 with (fail)
 go_cut [1] (fun v1 wc => ∃ (kq : Nat) (x1_7 : Int),v1 = .int .i64 x1_7 ∧ Aside0 (sr06_next.j1 kq a0 x1_7 x7_2 = some (r1,r2,r3,r4)) ∧ Aside0 (kq ≤ kj2) ∧ Aside0 (wc.heap[gb101]? = some (.cells #[.int .i64 0,.string (⟨#[]⟩ : ByteArray)] 97 (0,0))) ∧ Aside0 (Below w.heap.size w wc))
 case first =>
  have H:=HC8.out
  clear HC8
  by_cases c9 : x7_2 = true
  · subst c9
    have H1 : (sr06_next.j1 kj2 a0 (wrap64 (a1 + 1)) true) = some (r1,r2,r3,r4):=by rw [if_pos rfl] at H;exact H
    clear H
    have H:=H1
    clear H1
    have H':=aq H
    clear H
    go_wp2
    go_meet
    case rel => exact ⟨_,(wrap64 (a1 + 1)),eS,H',⟨by have:=HJ2.out;first|omega|exact Nat.le_refl _⟩,⟨KU BK101.out⟩,⟨bH⟩⟩
  replace c9:=Bool.eq_false_iff.mpr c9
  subst c9
  have H1 : (sr06_next.j1 kj2 a0 a1 false) = some (r1,r2,r3,r4):=by rw [if_neg (show ¬ (false = true) by decide)] at H;exact H
  clear H
  have H:=H1
  clear H1
  have H':=aq H
  clear H
  go_wp2
  go_meet
  case rel => exact ⟨_,(a1),eS,H',⟨by have:=HJ2.out;first|omega|exact Nat.le_refl _⟩,⟨KU BK101.out⟩,⟨bH⟩⟩
 case rest =>
 clear HC8
 obtain ⟨kq,x1_7,rfl,HA,HJ7,BK101,HB⟩:=hcut
 cases kq with
 | zero => exact absurd HA.out (by simp [sr06_next.j1])
 | succ kj7 =>
 have H:=HA.out
 clear HA
 simp only [sr06_next.j1] at H
 by_cases c10 : x1_7 ≥ (a0.size : Int)
 · rw [if_pos c10] at H
   have c10b0 : decide ((a0.size : Int) ≤ x1_7) = true:=decide_eq_true c10
   clear c10
   simp only [Option.some.injEq,Prod.mk.injEq] at H
   obtain ⟨rfl,rfl,rfl,rfl⟩:=H
   have hcz11_0 : wc.cell? ⟨gb101,0,none⟩ = some (.int .i64 0):=(blk_cell BK101.out 0).trans rfl
   have hcz11_1 : wc.cell? ⟨gb101,1,none⟩ = some (.string (⟨#[]⟩ : ByteArray)):=(blk_cell BK101.out 1).trans rfl
   have hfz11_0:=blk_frozen BK101.out 0
   have hfz11_1:=blk_frozen BK101.out 1
   go_wp2
   refine bodyPost_ret (results_ctt rfl _ _ gb101 97 #[.int .i64 0,.string (⟨#[]⟩ : ByteArray)] (0,0) _ rfl (by refine KU ?_;refine blk_put (cs:=#[.int .i64 0,.string (⟨#[]⟩ : ByteArray)]) ?_ 1 _ rfl;refine KU ?_;refine blk_put (cs:=#[.int .i64 0,.string (⟨#[]⟩ : ByteArray)]) ?_ 0 _ rfl;refine KU ?_;exact BK101.out) Try.underlying97 rfl (by kernel_rfl)) rfl ?_
   exact ⟨eR,bH⟩
 rw [if_neg c10] at H
 have c10b0 : decide ((a0.size : Int) ≤ x1_7) = false:=decide_eq_false c10
 clear c10
 by_cases c12 : 0 ≤ x1_7
 rotate_left
 · rw [if_neg c12] at H
   exact absurd H (by simp)
 rw [if_pos c12] at H
 have c12b0 : decide (0 ≤ x1_7) = true:=decide_eq_true c12
 clear c12
 by_cases c13 : x1_7 < (a0.size : Int)
 rotate_left
 · rw [if_neg c13] at H
   exact absurd H (by simp)
 rw [if_pos c13] at H
 have c13b0 : decide (x1_7 < (a0.size : Int)) = true:=decide_eq_true c13
 clear c13
 by_cases c15 : (bt a0 x1_7) = 86
 · rw [if_pos c15] at H
   have c15b0 : ((bt a0 x1_7) == 86) = true:=beq_iff_eq.mpr c15
   have c15b1 : ((bt a0 x1_7) != 86) = false:=bne_eq_false_iff_eq.mpr c15
   clear c15
   simp only [Option.some.injEq,Prod.mk.injEq] at H
   obtain ⟨rfl,rfl,rfl,rfl⟩:=H
   have p14 : 0 ≤ (x1_7 : Int):=of_decide_eq_true aS
   have q14 : x1_7 < (a0.size : Int):=of_decide_eq_true aS
   have hx14:=bt_at a0 x1_7
   replace p14:=eq_true p14
   replace q14:=eq_true q14
   have hcz16_0 : wc.cell? ⟨gb101,0,none⟩ = some (.int .i64 0):=(blk_cell BK101.out 0).trans rfl
   have hcz16_1 : wc.cell? ⟨gb101,1,none⟩ = some (.string (⟨#[]⟩ : ByteArray)):=(blk_cell BK101.out 1).trans rfl
   have hfz16_0:=blk_frozen BK101.out 0
   have hfz16_1:=blk_frozen BK101.out 1
   go_wp2
   refine bodyPost_ret (results_ctt rfl _ _ gb101 97 #[.int .i64 1,.string (⟨#[]⟩ : ByteArray)] (0,0) _ rfl (by refine KU ?_;refine blk_put (cs:=#[.int .i64 1,.string (⟨#[]⟩ : ByteArray)]) ?_ 1 _ rfl;refine KU ?_;refine blk_put (cs:=#[.int .i64 0,.string (⟨#[]⟩ : ByteArray)]) ?_ 0 _ rfl;refine KU ?_;exact BK101.out) Try.underlying97 rfl (by kernel_rfl)) rfl ?_
   exact ⟨eR,bH⟩
 rw [if_neg c15] at H
 have c15b0 : ((bt a0 x1_7) == 86) = false:=beq_eq_false_iff_ne.mpr c15
 have c15b1 : ((bt a0 x1_7) != 86) = true:=bne_iff_ne.mpr c15
 by_cases c17 : (bt a0 x1_7) = 73
 · rw [if_pos c17] at H
   have c17b0 : ((bt a0 x1_7) == 73) = true:=beq_iff_eq.mpr c17
   have c17b1 : ((bt a0 x1_7) != 73) = false:=bne_eq_false_iff_eq.mpr c17
   clear c17
   by_cases c18 : x7_2 = true
   · subst c18
     have H1 : (some (4,(⟨#[]⟩ : ByteArray),wrap64 (x1_7 + 1),true)) = some (r1,r2,r3,r4):=by rw [if_pos rfl] at H;exact H
     clear H
     have H:=H1
     clear H1
     simp only [Option.some.injEq,Prod.mk.injEq] at H
     obtain ⟨rfl,rfl,rfl,rfl⟩:=H
     have p14 : 0 ≤ (x1_7 : Int):=of_decide_eq_true aS
     have q14 : x1_7 < (a0.size : Int):=of_decide_eq_true aS
     have hx14:=bt_at a0 x1_7
     replace p14:=eq_true p14
     replace q14:=eq_true q14
     have hcz19_0 : wc.cell? ⟨gb101,0,none⟩ = some (.int .i64 0):=(blk_cell BK101.out 0).trans rfl
     have hcz19_1 : wc.cell? ⟨gb101,1,none⟩ = some (.string (⟨#[]⟩ : ByteArray)):=(blk_cell BK101.out 1).trans rfl
     have hfz19_0:=blk_frozen BK101.out 0
     have hfz19_1:=blk_frozen BK101.out 1
     go_wp2
     refine bodyPost_ret (results_ctt rfl _ _ gb101 97 #[.int .i64 4,.string (⟨#[]⟩ : ByteArray)] (0,0) _ rfl (by refine KU ?_;refine blk_put (cs:=#[.int .i64 4,.string (⟨#[]⟩ : ByteArray)]) ?_ 1 _ rfl;refine KU ?_;refine blk_put (cs:=#[.int .i64 0,.string (⟨#[]⟩ : ByteArray)]) ?_ 0 _ rfl;refine KU ?_;exact BK101.out) Try.underlying97 rfl (by kernel_rfl)) rfl ?_
     exact ⟨eR,bH⟩
   replace c18:=Bool.eq_false_iff.mpr c18
   subst c18
   have H1 : (some (2,(⟨#[]⟩ : ByteArray),wrap64 (x1_7 + 1),true)) = some (r1,r2,r3,r4):=by rw [if_neg (show ¬ (false = true) by decide)] at H;exact H
   clear H
   have H:=H1
   clear H1
   simp only [Option.some.injEq,Prod.mk.injEq] at H
   obtain ⟨rfl,rfl,rfl,rfl⟩:=H
   have p14 : 0 ≤ (x1_7 : Int):=of_decide_eq_true aS
   have q14 : x1_7 < (a0.size : Int):=of_decide_eq_true aS
   have hx14:=bt_at a0 x1_7
   replace p14:=eq_true p14
   replace q14:=eq_true q14
   have hcz20_0 : wc.cell? ⟨gb101,0,none⟩ = some (.int .i64 0):=(blk_cell BK101.out 0).trans rfl
   have hcz20_1 : wc.cell? ⟨gb101,1,none⟩ = some (.string (⟨#[]⟩ : ByteArray)):=(blk_cell BK101.out 1).trans rfl
   have hfz20_0:=blk_frozen BK101.out 0
   have hfz20_1:=blk_frozen BK101.out 1
   go_wp2
   refine bodyPost_ret (results_ctt rfl _ _ gb101 97 #[.int .i64 2,.string (⟨#[]⟩ : ByteArray)] (0,0) _ rfl (by refine KU ?_;refine blk_put (cs:=#[.int .i64 2,.string (⟨#[]⟩ : ByteArray)]) ?_ 1 _ rfl;refine KU ?_;refine blk_put (cs:=#[.int .i64 0,.string (⟨#[]⟩ : ByteArray)]) ?_ 0 _ rfl;refine KU ?_;exact BK101.out) Try.underlying97 rfl (by kernel_rfl)) rfl ?_
   exact ⟨eR,bH⟩
 rw [if_neg c17] at H
 have c17b0 : ((bt a0 x1_7) == 73) = false:=beq_eq_false_iff_ne.mpr c17
 have c17b1 : ((bt a0 x1_7) != 73) = true:=bne_iff_ne.mpr c17
 by_cases c21 : (bt a0 x1_7) = 76
 rotate_left
 · rw [if_neg c21] at H
   have c21b0 : ((bt a0 x1_7) == 76) = false:=beq_eq_false_iff_ne.mpr c21
   have c21b1 : ((bt a0 x1_7) != 76) = true:=bne_iff_ne.mpr c21
   simp only [Option.some.injEq,Prod.mk.injEq] at H
   obtain ⟨rfl,rfl,rfl,rfl⟩:=H
   have p14 : 0 ≤ (x1_7 : Int):=of_decide_eq_true aS
   have q14 : x1_7 < (a0.size : Int):=of_decide_eq_true aS
   have hx14:=bt_at a0 x1_7
   replace p14:=eq_true p14
   replace q14:=eq_true q14
   have hcz49_0 : wc.cell? ⟨gb101,0,none⟩ = some (.int .i64 0):=(blk_cell BK101.out 0).trans rfl
   have hcz49_1 : wc.cell? ⟨gb101,1,none⟩ = some (.string (⟨#[]⟩ : ByteArray)):=(blk_cell BK101.out 1).trans rfl
   have hfz49_0:=blk_frozen BK101.out 0
   have hfz49_1:=blk_frozen BK101.out 1
   go_wp2
   refine bodyPost_ret (results_ctt rfl _ _ gb101 97 #[.int .i64 0,.string (⟨#[]⟩ : ByteArray)] (0,0) _ rfl (by refine KU ?_;refine blk_put (cs:=#[.int .i64 0,.string (⟨#[]⟩ : ByteArray)]) ?_ 1 _ rfl;refine KU ?_;refine blk_put (cs:=#[.int .i64 0,.string (⟨#[]⟩ : ByteArray)]) ?_ 0 _ rfl;refine KU ?_;exact BK101.out) Try.underlying97 rfl (by kernel_rfl)) rfl ?_
   exact ⟨eR,bH⟩
 rw [if_pos c21] at H
 have c21b0 : ((bt a0 x1_7) == 76) = true:=beq_iff_eq.mpr c21
 have c21b1 : ((bt a0 x1_7) != 76) = false:=bne_eq_false_iff_eq.mpr c21
 clear c21
 have HC22:=aq H
 clear H
 have p14 : 0 ≤ (x1_7 : Int):=of_decide_eq_true aS
 have q14 : x1_7 < (a0.size : Int):=of_decide_eq_true aS
 have hx14:=bt_at a0 x1_7
 replace p14:=eq_true p14
 replace q14:=eq_true q14
 go_upto_block 1 with (fail)
 go_cut [8] (fun v8 wc => ∃ (kq : Nat) (x8_21 : Int),v8 = .int .i64 x8_21 ∧ Aside0 (sr06_next.j3 kq a0 x1_7 x7_2 x8_21 = some (r1,r2,r3,r4)) ∧ Aside0 (kq ≤ kj7) ∧ Aside0 (wc.heap[gb101]? = some (.cells #[.int .i64 0,.string (⟨#[]⟩ : ByteArray)] 97 (0,0))) ∧ Aside0 (Below w.heap.size w wc))
 case first =>
  have H:=HC22.out
  clear HC22
  have H':=aq H
  clear H
  go_wp2
  go_loopg [8] kj7 (fun kq v8 w' => ∃ (x8_3 : Int),v8 = .int .i64 x8_3 ∧ Aside0 (sr06_next.l0 kq a0 x1_7 x7_2 x8_3 = some (r1,r2,r3,r4)) ∧ Aside0 (kq ≤ kj7) ∧ Aside0 (w'.heap[gb101]? = some (.cells #[.int .i64 0,.string (⟨#[]⟩ : ByteArray)] 97 (0,0))) ∧ Aside0 (Below w.heap.size w w'))
  case atStart => exact ⟨(x1_7),eS,H',⟨Nat.le_refl _⟩,⟨KU BK101.out⟩,⟨bH⟩⟩
  case round =>
  clear H'
  (try clear c10);(try clear c10b0);(try clear c12);(try clear c12b0);(try clear c13);(try clear c13b0);(try clear p14);(try clear q14);(try clear hx14);(try clear c15);(try clear c15b0);(try clear c15b1);(try clear c17);(try clear c17b0);(try clear c17b1);(try clear c21);(try clear c21b0);(try clear c21b1);(try clear p14);(try clear q14)
  obtain ⟨x8_3,rfl,HA,HK3,BK101,HB⟩:=hrel
  cases gk with
  | zero => exact absurd HA.out (by simp [sr06_next.l0])
  | succ k3 =>
  have H:=HA.out
  clear HA
  simp only [sr06_next.l0] at H
  by_cases c23 : x8_3 < (a0.size : Int)
  rotate_left
  · rw [if_neg c23] at H
    have c23b0 : decide (x8_3 < (a0.size : Int)) = false:=decide_eq_false c23
    clear c23
    (first|rw [c23b0]|rw [c23b1]|(simp only [i64_w,i32_w];rw [c23b0])|skip)
    have H':=aq H
    clear H
    go_wp2
    go_meet
    case rel => exact ⟨_,(x8_3),eS,H',⟨by have:=HJ2.out;have:=HJ7.out;have:=HK3.out;first|omega|exact Nat.le_refl _⟩,⟨KU BK101.out⟩,⟨bH⟩⟩
  rw [if_pos c23] at H
  have c23b0 : decide (x8_3 < (a0.size : Int)) = true:=decide_eq_true c23
  clear c23
  (first|rw [c23b0]|rw [c23b1]|(simp only [i64_w,i32_w];rw [c23b0])|skip)
  by_cases c24 : 0 ≤ x8_3
  rotate_left
  · rw [if_neg c24] at H
    exact absurd H (by simp)
  rw [if_pos c24] at H
  have c24b0 : decide (0 ≤ x8_3) = true:=decide_eq_true c24
  clear c24
  by_cases c26 : (bt a0 x8_3) = 59
  · rw [if_pos c26] at H
    have c26b0 : ((bt a0 x8_3) == 59) = true:=beq_iff_eq.mpr c26
    have c26b1 : ((bt a0 x8_3) != 59) = false:=bne_eq_false_iff_eq.mpr c26
    clear c26
    have H':=aq H
    clear H
    have p25 : 0 ≤ (x8_3 : Int):=of_decide_eq_true aS
    have q25 : x8_3 < (a0.size : Int):=of_decide_eq_true aS
    have hx25:=bt_at a0 x8_3
    replace p25:=eq_true p25
    replace q25:=eq_true q25
    go_wp2
    go_meet
    case rel => exact ⟨_,(x8_3),eS,H',⟨by have:=HJ2.out;have:=HJ7.out;have:=HK3.out;first|omega|exact Nat.le_refl _⟩,⟨KU BK101.out⟩,⟨bH⟩⟩
  rw [if_neg c26] at H
  have c26b0 : ((bt a0 x8_3) == 59) = false:=beq_eq_false_iff_ne.mpr c26
  have c26b1 : ((bt a0 x8_3) != 59) = true:=bne_iff_ne.mpr c26
  have H':=aq H
  clear H
  have p25 : 0 ≤ (x8_3 : Int):=of_decide_eq_true aS
  have q25 : x8_3 < (a0.size : Int):=of_decide_eq_true aS
  have hx25:=bt_at a0 x8_3
  replace p25:=eq_true p25
  replace q25:=eq_true q25
  go_wp2
  go_roundg k3
  case measure => have:=HJ2.out;have:=HJ7.out;have:=HK3.out;omega
  case rel => exact ⟨(wrap64 (x8_3 + 1)),eS,H',⟨by have:=HJ2.out;have:=HJ7.out;have:=HK3.out;omega⟩,⟨KU BK101.out⟩,⟨bH⟩⟩
 case rest =>
 clear HC22
 (try clear c10);(try clear c10b0);(try clear c12);(try clear c12b0);(try clear c13);(try clear c13b0);(try clear p14);(try clear q14);(try clear hx14);(try clear c15);(try clear c15b0);(try clear c15b1);(try clear c17);(try clear c17b0);(try clear c17b1);(try clear c21);(try clear c21b0);(try clear c21b1);(try clear p14);(try clear q14)
 obtain ⟨kq,x8_21,rfl,HA,HJ21,BK101,HB⟩:=hcut
 cases kq with
 | zero => exact absurd HA.out (by simp [sr06_next.j3])
 | succ kj21 =>
 have H:=HA.out
 clear HA
 simp only [sr06_next.j3] at H
 have HC27:=aq H
 clear H
 go_upto_region 18 with (fail)
 go_cut [75] (fun v75 wc => ∃ (kq : Nat) (x75_26 : Bool),v75 = .bool x75_26 ∧ Aside0 (sr06_next.j4 kq a0 x1_7 x7_2 x8_21 x75_26 = some (r1,r2,r3,r4)) ∧ Aside0 (kq ≤ kj21) ∧ Aside0 (wc.heap[gb101]? = some (.cells #[.int .i64 0,.string (⟨#[]⟩ : ByteArray)] 97 (0,0))) ∧ Aside0 (Below w.heap.size w wc))
 case first =>
  have H:=HC27.out
  clear HC27
  by_cases c28 : x8_21 ≥ (a0.size : Int)
  · rw [if_pos c28] at H
    have c28b0 : decide ((a0.size : Int) ≤ x8_21) = true:=decide_eq_true c28
    clear c28
    (first|rw [c28b0]|rw [c28b1]|(simp only [i64_w,i32_w];rw [c28b0])|skip)
    have H':=aq H
    clear H
    go_wp2
    go_meet
    case rel => exact ⟨_,(true),eS,H',⟨by have:=HJ2.out;have:=HJ7.out;have:=HJ21.out;first|omega|exact Nat.le_refl _⟩,⟨KU BK101.out⟩,⟨bH⟩⟩
  rw [if_neg c28] at H
  have c28b0 : decide ((a0.size : Int) ≤ x8_21) = false:=decide_eq_false c28
  clear c28
  (first|rw [c28b0]|rw [c28b1]|(simp only [i64_w,i32_w];rw [c28b0])|skip)
  obtain ⟨ji29,hji29⟩ : ∃ j_ : Int,(wrap64 (x1_7 + 1)) = j_:=⟨_,rfl⟩
  replace H : (if 0 ≤ (ji29) then (if (ji29) ≤ x8_21 then (if x8_21 ≤ (a0.size : Int) then ((sr04_Class.f (a0.extract ((ji29) : Int).toNat (x8_21 : Int).toNat)).bind fun t102 => (sr06_next.j4 kj21 a0 x1_7 x7_2 x8_21 (!t102))) else (none)) else (none)) else (none)) = some (r1,r2,r3,r4):=by first|(rw [hji29] at H;exact H)|(simp only [hji29] at H ⊢;exact H)
  have hji29w : (IntKind.i64.wrap (x1_7 + 1)) = ji29:=(i64_w _).trans hji29
  by_cases c30 : 0 ≤ (ji29)
  rotate_left
  · rw [if_neg c30] at H
    exact absurd H (by simp)
  rw [if_pos c30] at H
  have c30b0:=eq_true c30
  have c30b1 : decide (0 ≤ (ji29)) = true:=decide_eq_true c30
  clear c30
  by_cases c31 : (ji29) ≤ x8_21
  rotate_left
  · rw [if_neg c31] at H
    exact absurd H (by simp)
  rw [if_pos c31] at H
  have c31b0:=eq_true c31
  have c31b1 : decide ((ji29) ≤ x8_21) = true:=decide_eq_true c31
  clear c31
  by_cases c32 : x8_21 ≤ (a0.size : Int)
  rotate_left
  · rw [if_neg c32] at H
    exact absurd H (by simp)
  rw [if_pos c32] at H
  have c32b0:=eq_true c32
  have c32b1 : decide (x8_21 ≤ (a0.size : Int)) = true:=decide_eq_true c32
  clear c32
  replace H:=Option.bind_eq_some_iff.mp H
  obtain ⟨t102,A330,H⟩:=H
  have A33:=aq A330
  clear A330
  have H':=aq H
  clear H
  go_wp2_with (first|(go_at_call 63;(with_reducible refine (sr04_Class.calls (a0.extract ((ji29) : Int).toNat (x8_21 : Int).toNat) t102 _ A33.out).mono ?_);rintro e w' ⟨rfl,⟨nd,rfl⟩⟩))
  go_meet
  case rel => exact ⟨_,(!t102),eS,H',⟨by have:=HJ2.out;have:=HJ7.out;have:=HJ21.out;first|omega|exact Nat.le_refl _⟩,⟨KU BK101.out⟩,⟨bH⟩⟩
 case rest =>
 clear HC27
 (try clear c10);(try clear c10b0);(try clear c12);(try clear c12b0);(try clear c13);(try clear c13b0);(try clear p14);(try clear q14);(try clear hx14);(try clear c15);(try clear c15b0);(try clear c15b1);(try clear c17);(try clear c17b0);(try clear c17b1);(try clear c21);(try clear c21b0);(try clear c21b1);(try clear p14);(try clear q14)
 obtain ⟨kq,x75_26,rfl,HA,HJ26,BK101,HB⟩:=hcut
 cases kq with
 | zero => exact absurd HA.out (by simp [sr06_next.j4])
 | succ kj26 =>
 have H:=HA.out
 clear HA
 simp only [sr06_next.j4] at H
 by_cases c34 : x75_26 = true
 · subst c34
   have H1 : (some (0,(⟨#[]⟩ : ByteArray),0,false)) = some (r1,r2,r3,r4):=by rw [if_pos rfl] at H;exact H
   clear H
   have H:=H1
   clear H1
   simp only [Option.some.injEq,Prod.mk.injEq] at H
   obtain ⟨rfl,rfl,rfl,rfl⟩:=H
   have hcz35_0 : wc.cell? ⟨gb101,0,none⟩ = some (.int .i64 0):=(blk_cell BK101.out 0).trans rfl
   have hcz35_1 : wc.cell? ⟨gb101,1,none⟩ = some (.string (⟨#[]⟩ : ByteArray)):=(blk_cell BK101.out 1).trans rfl
   have hfz35_0:=blk_frozen BK101.out 0
   have hfz35_1:=blk_frozen BK101.out 1
   go_wp2
   refine bodyPost_ret (results_ctt rfl _ _ gb101 97 #[.int .i64 0,.string (⟨#[]⟩ : ByteArray)] (0,0) _ rfl (by refine KU ?_;refine blk_put (cs:=#[.int .i64 0,.string (⟨#[]⟩ : ByteArray)]) ?_ 1 _ rfl;refine KU ?_;refine blk_put (cs:=#[.int .i64 0,.string (⟨#[]⟩ : ByteArray)]) ?_ 0 _ rfl;refine KU ?_;exact BK101.out) Try.underlying97 rfl (by kernel_rfl)) rfl ?_
   exact ⟨eR,bH⟩
 replace c34:=Bool.eq_false_iff.mpr c34
 subst c34
 have H1 : (if 0 ≤ (wrap64 (x1_7 + 1)) then (if (wrap64 (x1_7 + 1)) ≤ x8_21 then (if x8_21 ≤ (a0.size : Int) then (if x7_2 = true then (some (5,a0.extract ((wrap64 (x1_7 + 1)) : Int).toNat (x8_21 : Int).toNat,wrap64 (x8_21 + 1),true)) else (some (3,a0.extract ((wrap64 (x1_7 + 1)) : Int).toNat (x8_21 : Int).toNat,wrap64 (x8_21 + 1),true))) else (none)) else (none)) else (none)) = some (r1,r2,r3,r4):=by rw [if_neg (show ¬ (false = true) by decide)] at H;exact H
 clear H
 have H:=H1
 clear H1
 obtain ⟨ji36,hji36⟩ : ∃ j_ : Int,(wrap64 (x1_7 + 1)) = j_:=⟨_,rfl⟩
 replace H : (if 0 ≤ (ji36) then (if (ji36) ≤ x8_21 then (if x8_21 ≤ (a0.size : Int) then (if x7_2 = true then (some (5,a0.extract ((ji36) : Int).toNat (x8_21 : Int).toNat,wrap64 (x8_21 + 1),true)) else (some (3,a0.extract ((ji36) : Int).toNat (x8_21 : Int).toNat,wrap64 (x8_21 + 1),true))) else (none)) else (none)) else (none)) = some (r1,r2,r3,r4):=by first|(rw [hji36] at H;exact H)|(simp only [hji36] at H ⊢;exact H)
 have hji36w : (IntKind.i64.wrap (x1_7 + 1)) = ji36:=(i64_w _).trans hji36
 by_cases c37 : 0 ≤ (ji36)
 rotate_left
 · rw [if_neg c37] at H
   exact absurd H (by simp)
 rw [if_pos c37] at H
 have c37b0:=eq_true c37
 have c37b1 : decide (0 ≤ (ji36)) = true:=decide_eq_true c37
 clear c37
 by_cases c38 : (ji36) ≤ x8_21
 rotate_left
 · rw [if_neg c38] at H
   exact absurd H (by simp)
 rw [if_pos c38] at H
 have c38b0:=eq_true c38
 have c38b1 : decide ((ji36) ≤ x8_21) = true:=decide_eq_true c38
 clear c38
 by_cases c39 : x8_21 ≤ (a0.size : Int)
 rotate_left
 · rw [if_neg c39] at H
   exact absurd H (by simp)
 rw [if_pos c39] at H
 have c39b0:=eq_true c39
 have c39b1 : decide (x8_21 ≤ (a0.size : Int)) = true:=decide_eq_true c39
 clear c39
 by_cases c40 : x7_2 = true
 · subst c40
   have H1 : (some (5,a0.extract ((ji36) : Int).toNat (x8_21 : Int).toNat,wrap64 (x8_21 + 1),true)) = some (r1,r2,r3,r4):=by rw [if_pos rfl] at H;exact H
   clear H
   have H:=H1
   clear H1
   simp only [Option.some.injEq,Prod.mk.injEq] at H
   obtain ⟨rfl,rfl,rfl,rfl⟩:=H
   go_wp2_with (first|((with_reducible refine gate_dst (N:=9) rfl ?_);refine box_event rfl (N:=9) rfl (cs:=#[.int .i64 0,.string (⟨#[]⟩ : ByteArray)]) (t:=97) gS ?_;intro gb103 hg w41 hbox hb;have BK103:=aq (hbox);have GE103:=aq ((GN hg : w.heap.size ≤ gb103));have NB101_103:=aq ((by rw [hg];exact Nat.ne_of_lt (blk_lt (g:=gb101) (o:=.cells #[.int .i64 0,.string (⟨#[]⟩ : ByteArray)] 97 (0,0)) (KU BK101.out)) : gb101 ≠ gb103));have NB103_101:=aq ((by rw [hg];exact Nat.ne_of_gt (blk_lt (g:=gb101) (o:=.cells #[.int .i64 0,.string (⟨#[]⟩ : ByteArray)] 97 (0,0)) (KU BK101.out)) : gb103 ≠ gb101));replace BK101:=aq (blk_below (g:=gb101) (o:=.cells #[.int .i64 0,.string (⟨#[]⟩ : ByteArray)] 97 (0,0)) (KU BK101.out) hb);replace HB:=aq (below_step bH hb);clear hb hbox hg;have hnb42:=NB103_101.out;have hnc42:=NB101_103.out;have hcz43_0 : w41.cell? ⟨gb103,0,none⟩ = some (.int .i64 0):=(blk_cell BK103.out 0).trans rfl;have hcz43_1 : w41.cell? ⟨gb103,1,none⟩ = some (.string (⟨#[]⟩ : ByteArray)):=(blk_cell BK103.out 1).trans rfl;have hfz43_0:=blk_frozen BK103.out 0;have hfz43_1:=blk_frozen BK103.out 1;have hcz44_0 : w41.cell? ⟨gb101,0,none⟩ = some (.int .i64 0):=(blk_cell BK101.out 0).trans rfl;have hcz44_1 : w41.cell? ⟨gb101,1,none⟩ = some (.string (⟨#[]⟩ : ByteArray)):=(blk_cell BK101.out 1).trans rfl;have hfz44_0:=blk_frozen BK101.out 0;have hfz44_1:=blk_frozen BK101.out 1))
   refine bodyPost_ret (results_ctt rfl _ _ gb101 97 #[.int .i64 5,.string (a0.extract ((ji36) : Int).toNat (x8_21 : Int).toNat)] (0,0) _ rfl (by refine KU ?_;refine blk_put (cs:=#[.int .i64 5,.string (⟨#[]⟩ : ByteArray)]) ?_ 1 _ rfl;refine KU ?_;refine blk_put (cs:=#[.int .i64 0,.string (⟨#[]⟩ : ByteArray)]) ?_ 0 _ rfl;refine KU ?_;refine blk_far ?_ NB101_103.out _;refine KU ?_;refine blk_far ?_ NB101_103.out _;refine KU ?_;refine blk_far ?_ NB101_103.out _;refine KU ?_;exact BK101.out) Try.underlying97 rfl (by kernel_rfl)) rfl ?_
   exact ⟨by first|rfl|(simp [errW_none,errW_some] <;> rfl)|(simp only [← hji36];first|rfl|(simp [errW_none,errW_some] <;> rfl))|(simp [*,errW_none,errW_some] <;> rfl),bH⟩
 replace c40:=Bool.eq_false_iff.mpr c40
 subst c40
 have H1 : (some (3,a0.extract ((ji36) : Int).toNat (x8_21 : Int).toNat,wrap64 (x8_21 + 1),true)) = some (r1,r2,r3,r4):=by rw [if_neg (show ¬ (false = true) by decide)] at H;exact H
 clear H
 have H:=H1
 clear H1
 simp only [Option.some.injEq,Prod.mk.injEq] at H
 obtain ⟨rfl,rfl,rfl,rfl⟩:=H
 go_wp2_with (first|((with_reducible refine gate_dst (N:=9) rfl ?_);refine box_event rfl (N:=9) rfl (cs:=#[.int .i64 0,.string (⟨#[]⟩ : ByteArray)]) (t:=97) gS ?_;intro gb103 hg w45 hbox hb;have BK103:=aq (hbox);have GE103:=aq ((GN hg : w.heap.size ≤ gb103));have NB101_103:=aq ((by rw [hg];exact Nat.ne_of_lt (blk_lt (g:=gb101) (o:=.cells #[.int .i64 0,.string (⟨#[]⟩ : ByteArray)] 97 (0,0)) (KU BK101.out)) : gb101 ≠ gb103));have NB103_101:=aq ((by rw [hg];exact Nat.ne_of_gt (blk_lt (g:=gb101) (o:=.cells #[.int .i64 0,.string (⟨#[]⟩ : ByteArray)] 97 (0,0)) (KU BK101.out)) : gb103 ≠ gb101));replace BK101:=aq (blk_below (g:=gb101) (o:=.cells #[.int .i64 0,.string (⟨#[]⟩ : ByteArray)] 97 (0,0)) (KU BK101.out) hb);replace HB:=aq (below_step bH hb);clear hb hbox hg;have hnb46:=NB103_101.out;have hnc46:=NB101_103.out;have hcz47_0 : w45.cell? ⟨gb103,0,none⟩ = some (.int .i64 0):=(blk_cell BK103.out 0).trans rfl;have hcz47_1 : w45.cell? ⟨gb103,1,none⟩ = some (.string (⟨#[]⟩ : ByteArray)):=(blk_cell BK103.out 1).trans rfl;have hfz47_0:=blk_frozen BK103.out 0;have hfz47_1:=blk_frozen BK103.out 1;have hcz48_0 : w45.cell? ⟨gb101,0,none⟩ = some (.int .i64 0):=(blk_cell BK101.out 0).trans rfl;have hcz48_1 : w45.cell? ⟨gb101,1,none⟩ = some (.string (⟨#[]⟩ : ByteArray)):=(blk_cell BK101.out 1).trans rfl;have hfz48_0:=blk_frozen BK101.out 0;have hfz48_1:=blk_frozen BK101.out 1))
 refine bodyPost_ret (results_ctt rfl _ _ gb101 97 #[.int .i64 3,.string (a0.extract ((ji36) : Int).toNat (x8_21 : Int).toNat)] (0,0) _ rfl (by refine KU ?_;refine blk_put (cs:=#[.int .i64 3,.string (⟨#[]⟩ : ByteArray)]) ?_ 1 _ rfl;refine KU ?_;refine blk_put (cs:=#[.int .i64 0,.string (⟨#[]⟩ : ByteArray)]) ?_ 0 _ rfl;refine KU ?_;refine blk_far ?_ NB101_103.out _;refine KU ?_;refine blk_far ?_ NB101_103.out _;refine KU ?_;exact BK101.out) Try.underlying97 rfl (by kernel_rfl)) rfl ?_
 exact ⟨by first|rfl|(simp [errW_none,errW_some] <;> rfl)|(simp only [← hji36];first|rfl|(simp [errW_none,errW_some] <;> rfl))|(simp [*,errW_none,errW_some] <;> rfl),bH⟩
def sr06_Parse.f (k : Nat) (a0 : ByteArray) : Option (Int × ByteArray × Int) := (sr06_next.f k a0 0).bind fun bt105 => (if bt105.2.2.2 = true then (if bt105.2.2.1 = (a0.size : Int) then (some (bt105.1, bt105.2.1, 0)) else (some (0, (⟨#[]⟩ : ByteArray), 1))) else (some (0, (⟨#[]⟩ : ByteArray), 1)))
theorem sr06_Parse.calls (k : Nat) (a0 : ByteArray) (r1 : Int) (r2 : ByteArray) (r3 : Int) (w : World) (h : sr06_Parse.f k a0 = some (r1, r2, r3)) :
    Calls Try.prog 78 #[.string a0] w fun e w' => e = .returned (.tuple #[.agg #[.int .i64 r1,.string r2],.int .i64 r3]) ∧ Below w.heap.size w w':=by
 have hu97:=Try.underlying97
 have HB:=aq (Below.refl w.heap.size w)
 have H : ((sr06_next.f k a0 0).bind fun bt105 => (if bt105.2.2.2 = true then (if bt105.2.2.1 = (a0.size : Int) then (some (bt105.1,bt105.2.1,0)) else (some (0,(⟨#[]⟩ : ByteArray),1))) else (some (0,(⟨#[]⟩ : ByteArray),1)))) = some (r1,r2,r3):=h
 clear h
 replace H:=Option.bind_eq_some_iff.mp H
 obtain ⟨⟨t105,t106,t107,t108⟩,A20,H⟩:=H
 replace H : (if t108 = true then (if t107 = (a0.size : Int) then (some (t105,t106,0)) else (some (0,(⟨#[]⟩ : ByteArray),1))) else (some (0,(⟨#[]⟩ : ByteArray),1))) = some (r1,r2,r3):=H
 have A2:=aq A20
 clear A20
 by_cases c3 : t108 = true
 rotate_left
 · replace c3:=Bool.eq_false_iff.mpr c3
   subst c3
   have H1 : (some (0,(⟨#[]⟩ : ByteArray),1)) = some (r1,r2,r3):=by rw [if_neg (show ¬ (false = true) by decide)] at H;exact H
   clear H
   have H:=H1
   clear H1
   simp only [Option.some.injEq,Prod.mk.injEq] at H
   obtain ⟨rfl,rfl,rfl⟩:=H
   go_enter Try.func78,Try.ntmps78
   go_wp2_with (first|((with_reducible refine gate_dst (N:=2) rfl ?_);(try (refine gate_guard (by rfl) ?_;dsimp only));refine box_event rfl (N:=2) rfl (cs:=#[.int .i64 0,.string (⟨#[]⟩ : ByteArray)]) (t:=97) gS ?_;intro gb104 hg w17 hbox hb;have BK104:=aq (hbox);have GE104:=aq ((GN hg : w.heap.size ≤ gb104));replace HB:=aq (below_step bH hb);clear hb hbox hg)|((with_reducible refine gate_callee (f:=77) rfl ?_);refine goesL_ (some 9) rfl rfl Try.func77 (by kernel_rfl) rfl #[.string a0,.int .i64 0] rfl eA ?_;(with_reducible refine (sr06_next.calls k a0 0 t105 t106 t107 false _ A2.out).mono ?_);rintro e w18 ⟨rfl,hb⟩;refine ⟨_,rfl,?_⟩;replace BK104:=aq (blk_below (g:=gb104) (o:=.cells #[.int .i64 0,.string (⟨#[]⟩ : ByteArray)] 97 (0,0)) (KU BK104.out) hb);replace HB:=aq (below_step bH hb);(try clear hb);(try clear hb2);(try clear hk);(try clear hi))|((with_reducible refine gate_dst (N:=4) rfl ?_);(try (refine gate_guard (by rfl) ?_;dsimp only));refine box_event rfl (N:=4) rfl (cs:=#[.int .i64 0,.string (⟨#[]⟩ : ByteArray)]) (t:=97) gS ?_;intro gb109 hg w19 hbox hb;have BK109:=aq (hbox);have GE109:=aq ((GN hg : w.heap.size ≤ gb109));have NB104_109:=aq ((by rw [hg];exact Nat.ne_of_lt (blk_lt (g:=gb104) (o:=.cells #[.int .i64 0,.string (⟨#[]⟩ : ByteArray)] 97 (0,0)) (KU BK104.out)) : gb104 ≠ gb109));have NB109_104:=aq ((by rw [hg];exact Nat.ne_of_gt (blk_lt (g:=gb104) (o:=.cells #[.int .i64 0,.string (⟨#[]⟩ : ByteArray)] 97 (0,0)) (KU BK104.out)) : gb109 ≠ gb104));replace BK104:=aq (blk_below (g:=gb104) (o:=.cells #[.int .i64 0,.string (⟨#[]⟩ : ByteArray)] 97 (0,0)) (KU BK104.out) hb);replace HB:=aq (below_step bH hb);clear hb hbox hg;have hnb20:=NB109_104.out;have hnc20:=NB104_109.out;have hcz21_0 : w19.cell? ⟨gb109,0,none⟩ = some (.int .i64 0):=(blk_cell BK109.out 0).trans rfl;have hcz21_1 : w19.cell? ⟨gb109,1,none⟩ = some (.string (⟨#[]⟩ : ByteArray)):=(blk_cell BK109.out 1).trans rfl;have hfz21_0:=blk_frozen BK109.out 0;have hfz21_1:=blk_frozen BK109.out 1;have hcz22_0 : w19.cell? ⟨gb104,0,none⟩ = some (.int .i64 0):=(blk_cell BK104.out 0).trans rfl;have hcz22_1 : w19.cell? ⟨gb104,1,none⟩ = some (.string (⟨#[]⟩ : ByteArray)):=(blk_cell BK104.out 1).trans rfl;have hfz22_0:=blk_frozen BK104.out 0;have hfz22_1:=blk_frozen BK104.out 1))
   refine bodyPost_ret (results_ct rfl _ _ gb104 97 #[.int .i64 0,.string (⟨#[]⟩ : ByteArray)] (0,0) _ rfl (by refine KU ?_;refine blk_put (cs:=#[.int .i64 0,.string (⟨#[]⟩ : ByteArray)]) ?_ 1 _ rfl;refine KU ?_;refine blk_put (cs:=#[.int .i64 0,.string (⟨#[]⟩ : ByteArray)]) ?_ 0 _ rfl;refine KU ?_;refine blk_far ?_ NB104_109.out _;refine KU ?_;refine blk_far ?_ NB104_109.out _;refine KU ?_;exact BK104.out) Try.underlying97 rfl (by kernel_rfl)) rfl ?_
   exact ⟨eR,bH⟩
 subst c3
 have H1 : (if t107 = (a0.size : Int) then (some (t105,t106,0)) else (some (0,(⟨#[]⟩ : ByteArray),1))) = some (r1,r2,r3):=by rw [if_pos rfl] at H;exact H
 clear H
 have H:=H1
 clear H1
 by_cases c4 : t107 = (a0.size : Int)
 · rw [if_pos c4] at H
   have c4b0 : (t107 == (a0.size : Int)) = true:=beq_iff_eq.mpr c4
   have c4b1 : (t107 != (a0.size : Int)) = false:=bne_eq_false_iff_eq.mpr c4
   clear c4
   simp only [Option.some.injEq,Prod.mk.injEq] at H
   obtain ⟨rfl,rfl,rfl⟩:=H
   go_enter Try.func78,Try.ntmps78
   go_wp2_with (first|((with_reducible refine gate_dst (N:=2) rfl ?_);(try (refine gate_guard (by rfl) ?_;dsimp only));refine box_event rfl (N:=2) rfl (cs:=#[.int .i64 0,.string (⟨#[]⟩ : ByteArray)]) (t:=97) gS ?_;intro gb104 hg w5 hbox hb;have BK104:=aq (hbox);have GE104:=aq ((GN hg : w.heap.size ≤ gb104));replace HB:=aq (below_step bH hb);clear hb hbox hg)|((with_reducible refine gate_callee (f:=77) rfl ?_);refine goesL_ (some 9) rfl rfl Try.func77 (by kernel_rfl) rfl #[.string a0,.int .i64 0] rfl eA ?_;(with_reducible refine (sr06_next.calls k a0 0 t105 t106 t107 true _ A2.out).mono ?_);rintro e w6 ⟨rfl,hb⟩;refine ⟨_,rfl,?_⟩;replace BK104:=aq (blk_below (g:=gb104) (o:=.cells #[.int .i64 0,.string (⟨#[]⟩ : ByteArray)] 97 (0,0)) (KU BK104.out) hb);replace HB:=aq (below_step bH hb);(try clear hb);(try clear hb2);(try clear hk);(try clear hi))|((with_reducible refine gate_dst (N:=4) rfl ?_);(try (refine gate_guard (by rfl) ?_;dsimp only));refine box_event rfl (N:=4) rfl (cs:=#[.int .i64 0,.string (⟨#[]⟩ : ByteArray)]) (t:=97) gS ?_;intro gb109 hg w7 hbox hb;have BK109:=aq (hbox);have GE109:=aq ((GN hg : w.heap.size ≤ gb109));have NB104_109:=aq ((by rw [hg];exact Nat.ne_of_lt (blk_lt (g:=gb104) (o:=.cells #[.int .i64 0,.string (⟨#[]⟩ : ByteArray)] 97 (0,0)) (KU BK104.out)) : gb104 ≠ gb109));have NB109_104:=aq ((by rw [hg];exact Nat.ne_of_gt (blk_lt (g:=gb104) (o:=.cells #[.int .i64 0,.string (⟨#[]⟩ : ByteArray)] 97 (0,0)) (KU BK104.out)) : gb109 ≠ gb104));replace BK104:=aq (blk_below (g:=gb104) (o:=.cells #[.int .i64 0,.string (⟨#[]⟩ : ByteArray)] 97 (0,0)) (KU BK104.out) hb);replace HB:=aq (below_step bH hb);clear hb hbox hg;have hnb8:=NB109_104.out;have hnc8:=NB104_109.out;have hcz9_0 : w7.cell? ⟨gb109,0,none⟩ = some (.int .i64 0):=(blk_cell BK109.out 0).trans rfl;have hcz9_1 : w7.cell? ⟨gb109,1,none⟩ = some (.string (⟨#[]⟩ : ByteArray)):=(blk_cell BK109.out 1).trans rfl;have hfz9_0:=blk_frozen BK109.out 0;have hfz9_1:=blk_frozen BK109.out 1;have hcz10_0 : w7.cell? ⟨gb104,0,none⟩ = some (.int .i64 0):=(blk_cell BK104.out 0).trans rfl;have hcz10_1 : w7.cell? ⟨gb104,1,none⟩ = some (.string (⟨#[]⟩ : ByteArray)):=(blk_cell BK104.out 1).trans rfl;have hfz10_0:=blk_frozen BK104.out 0;have hfz10_1:=blk_frozen BK104.out 1))
   refine bodyPost_ret (results_ct rfl _ _ gb104 97 #[.int .i64 t105,.string t106] (0,0) _ rfl (by refine KU ?_;refine blk_put (cs:=#[.int .i64 t105,.string (⟨#[]⟩ : ByteArray)]) ?_ 1 _ rfl;refine KU ?_;refine blk_put (cs:=#[.int .i64 0,.string (⟨#[]⟩ : ByteArray)]) ?_ 0 _ rfl;refine KU ?_;refine blk_far ?_ NB104_109.out _;refine KU ?_;refine blk_far ?_ NB104_109.out _;refine KU ?_;exact BK104.out) Try.underlying97 rfl (by kernel_rfl)) rfl ?_
   exact ⟨eR,bH⟩
 rw [if_neg c4] at H
 have c4b0 : (t107 == (a0.size : Int)) = false:=beq_eq_false_iff_ne.mpr c4
 have c4b1 : (t107 != (a0.size : Int)) = true:=bne_iff_ne.mpr c4
 simp only [Option.some.injEq,Prod.mk.injEq] at H
 obtain ⟨rfl,rfl,rfl⟩:=H
 go_enter Try.func78,Try.ntmps78
 go_wp2_with (first|((with_reducible refine gate_dst (N:=2) rfl ?_);(try (refine gate_guard (by rfl) ?_;dsimp only));refine box_event rfl (N:=2) rfl (cs:=#[.int .i64 0,.string (⟨#[]⟩ : ByteArray)]) (t:=97) gS ?_;intro gb104 hg w11 hbox hb;have BK104:=aq (hbox);have GE104:=aq ((GN hg : w.heap.size ≤ gb104));replace HB:=aq (below_step bH hb);clear hb hbox hg)|((with_reducible refine gate_callee (f:=77) rfl ?_);refine goesL_ (some 9) rfl rfl Try.func77 (by kernel_rfl) rfl #[.string a0,.int .i64 0] rfl eA ?_;(with_reducible refine (sr06_next.calls k a0 0 t105 t106 t107 true _ A2.out).mono ?_);rintro e w12 ⟨rfl,hb⟩;refine ⟨_,rfl,?_⟩;replace BK104:=aq (blk_below (g:=gb104) (o:=.cells #[.int .i64 0,.string (⟨#[]⟩ : ByteArray)] 97 (0,0)) (KU BK104.out) hb);replace HB:=aq (below_step bH hb);(try clear hb);(try clear hb2);(try clear hk);(try clear hi))|((with_reducible refine gate_dst (N:=4) rfl ?_);(try (refine gate_guard (by rfl) ?_;dsimp only));refine box_event rfl (N:=4) rfl (cs:=#[.int .i64 0,.string (⟨#[]⟩ : ByteArray)]) (t:=97) gS ?_;intro gb109 hg w13 hbox hb;have BK109:=aq (hbox);have GE109:=aq ((GN hg : w.heap.size ≤ gb109));have NB104_109:=aq ((by rw [hg];exact Nat.ne_of_lt (blk_lt (g:=gb104) (o:=.cells #[.int .i64 0,.string (⟨#[]⟩ : ByteArray)] 97 (0,0)) (KU BK104.out)) : gb104 ≠ gb109));have NB109_104:=aq ((by rw [hg];exact Nat.ne_of_gt (blk_lt (g:=gb104) (o:=.cells #[.int .i64 0,.string (⟨#[]⟩ : ByteArray)] 97 (0,0)) (KU BK104.out)) : gb109 ≠ gb104));replace BK104:=aq (blk_below (g:=gb104) (o:=.cells #[.int .i64 0,.string (⟨#[]⟩ : ByteArray)] 97 (0,0)) (KU BK104.out) hb);replace HB:=aq (below_step bH hb);clear hb hbox hg;have hnb14:=NB109_104.out;have hnc14:=NB104_109.out;have hcz15_0 : w13.cell? ⟨gb109,0,none⟩ = some (.int .i64 0):=(blk_cell BK109.out 0).trans rfl;have hcz15_1 : w13.cell? ⟨gb109,1,none⟩ = some (.string (⟨#[]⟩ : ByteArray)):=(blk_cell BK109.out 1).trans rfl;have hfz15_0:=blk_frozen BK109.out 0;have hfz15_1:=blk_frozen BK109.out 1;have hcz16_0 : w13.cell? ⟨gb104,0,none⟩ = some (.int .i64 0):=(blk_cell BK104.out 0).trans rfl;have hcz16_1 : w13.cell? ⟨gb104,1,none⟩ = some (.string (⟨#[]⟩ : ByteArray)):=(blk_cell BK104.out 1).trans rfl;have hfz16_0:=blk_frozen BK104.out 0;have hfz16_1:=blk_frozen BK104.out 1))
 refine bodyPost_ret (results_ct rfl _ _ gb104 97 #[.int .i64 0,.string (⟨#[]⟩ : ByteArray)] (0,0) _ rfl (by refine KU ?_;refine blk_put (cs:=#[.int .i64 0,.string (⟨#[]⟩ : ByteArray)]) ?_ 1 _ rfl;refine KU ?_;refine blk_put (cs:=#[.int .i64 0,.string (⟨#[]⟩ : ByteArray)]) ?_ 0 _ rfl;refine KU ?_;refine blk_far ?_ NB104_109.out _;refine KU ?_;refine blk_far ?_ NB104_109.out _;refine KU ?_;exact BK104.out) Try.underlying97 rfl (by kernel_rfl)) rfl ?_
 exact ⟨eR,bH⟩
end Go.Proofs.Ytfplcohjnlbfjaa.Q8
end
