import Derived.Test.YtaokkkolbifdpaaGreatDoorMgLegendTexts1
import Derived.Test.YtaokkkolbifdpaaGreatDoorMgLegendTexts6
import Derived.Test.YtaokkkolbifdpaaGreatDoorMgLegendTexts4
import Derived.Test.YtaokkkolbifdpaaGreatDoorProg
import Derived.Below
import Derived.Deep.Draws
import Derived.Deep.AppendLies
import Derived.Maps.AppendAt
import Derived.OwnWalk
import Derived.Laws.BytesArg
import Derived.Laws.MakeOwn
import Derived.Laws.OwnMore
import Derived.Deep.OwnRows
import Derived.Tactics
import Derived.Lib.ConvBytes
import Derived.Laws.Slices
import Derived.WalkKit
import Derived.KernelRfl
import Derived.RowKit3
import Derived.Deep.LoopGhost
import Derived.Deep.QuietTactic
import Derived.BigQuiet
import Derived.WideLaws
import Derived.Deep.DeepCutAuto
import Derived.Deep.CutBlock
import Derived.Deep.RegionHeld3
import Derived.Laws.Rows
import Derived.Lib.AppendStr
import Derived.ArgAppend
import Derived.Laws.IdiomCopy
import Derived.OrdersHeld
import Derived.Laws.BitsLemmas
import Derived.RowKit
import Derived.Test.YtaokkkolbifdpaaGreatDoorMgLegendTexts0
import Derived.Test.YtaokkkolbifdpaaGreatDoorRows
import Derived.OpenShut
import Derived.SliceStrings
import Derived.ProofKit
import Derived.ChangeSame
import Derived.Lib.SmallJoins
import Derived.SizedLaws
set_option linter.unusedVariables false
set_option linter.unusedSimpArgs false
set_option maxHeartbeats 64000000
set_option maxRecDepth 100000
section
namespace Go.Proofs.YtaokkkolbifdpaaGreatDoor.Q35
open Go.RowKit Go.Proofs.YtaokkkolbifdpaaGreatDoorW
open PrintWords PrintLast PrintMore Go.Proofs.YtaokkkolbifdpaaGreatDoor.Hand
attribute [local go_sem] max2_int min2_int max_two min_two max_three min_three max_four min_four
def sr30_Parse.l0 : Nat → ByteArray → List ByteArray → Int → List (S23) → List (S23) → List (S23) → Option ((List (S23)) × (List (S23)) × (List (S23)) × Int × Int)
  | 0,_,_,_,_,_,_ => none
  | k + 1,x0,x4,x7,x120000,x120001,x120002 => if x7 < (x4.length : Int) then (if 0 ≤ x7 then ((sr30_Read.f (rdOf ByteArray.empty x4 x7)).bind fun bt123 => (if bt123.2.2.2 = true then (if bt123.1.toList = ([99,108,97,115,115] : List UInt8) then (if x120000.length < 4398046511104 then (sr30_Parse.l0 k x0 x4 (wrap64 (x7 + 1)) (x120000 ++ [(⟨bt123.2.1,bt123.2.2.1⟩ : S23)]) x120001 x120002) else (none)) else (if bt123.1.toList = ([102,105,101,108,100] : List UInt8) then (if x120001.length < 4398046511104 then (sr30_Parse.l0 k x0 x4 (wrap64 (x7 + 1)) x120000 (x120001 ++ [(⟨bt123.2.1,bt123.2.2.1⟩ : S23)]) x120002) else (none)) else (if x120002.length < 4398046511104 then (sr30_Parse.l0 k x0 x4 (wrap64 (x7 + 1)) x120000 x120001 (x120002 ++ [(⟨bt123.2.1,bt123.2.2.1⟩ : S23)])) else (none)))) else (some (([] : List (S23)),([] : List (S23)),([] : List (S23)),1,wrap64 (x7 + 1))))) else (none)) else ((sr30_Print.f k x120000 x120001 x120002).bind fun bt120 => (if bt120.2 = 0 then (if bt120.1.toList = x0.toList then (some (x120000,x120001,x120002,0,0)) else (some (([] : List (S23)),([] : List (S23)),([] : List (S23)),5,0))) else (some (([] : List (S23)),([] : List (S23)),([] : List (S23)),5,0))))
def sr30_Parse.f (k : Nat) (a0 : ByteArray) : Option ((List (S23)) × (List (S23)) × (List (S23)) × Int × Int) := (sr04_Lines.f a0).bind fun bt113 => (if bt113.2.1 = 0 then (sr30_Parse.l0 k a0 bt113.1 0 ([] : List (S23)) ([] : List (S23)) ([] : List (S23))) else (some (([] : List (S23)), ([] : List (S23)), ([] : List (S23)), bt113.2.1, bt113.2.2)))
theorem sr30_Parse.calls (k : Nat) (a0 : ByteArray) (r1 : List (S23)) (r2 : List (S23)) (r3 : List (S23)) (r4 : Int) (r5 : Int) (w : World) (h : sr30_Parse.f k a0 = some (r1, r2, r3, r4, r5)) :
    Calls Tryz.prog 16 #[.string a0] w fun e w' => ∃ v0_ v1_ v2_ : Value,e = .returned (.tuple #[.agg #[v0_,v1_,v2_],.agg #[.int .i64 r4,.int .i64 r5]]) ∧ Kd.R k23 23 w' w.heap.size (fun k_ => some k_ ≠ (v1_ : Value).ownBlock ∧ some k_ ≠ (v2_ : Value).ownBlock) v0_ r1 ∧ Kd.R k23 23 w' w.heap.size (fun k_ => some k_ ≠ (v0_ : Value).ownBlock ∧ some k_ ≠ (v2_ : Value).ownBlock) v1_ r2 ∧ Kd.R k23 23 w' w.heap.size (fun k_ => some k_ ≠ (v0_ : Value).ownBlock ∧ some k_ ≠ (v1_ : Value).ownBlock) v2_ r3 ∧ Below w.heap.size w w':=by
 have hu34:=Tryz.underlying34
 have hu40:=Tryz.underlying40
 have hu23:=Tryz.underlying23
 have HB:=aq (Below.refl w.heap.size w)
 have H : ((sr04_Lines.f a0).bind fun bt113 => (if bt113.2.1 = 0 then (sr30_Parse.l0 k a0 bt113.1 0 ([] : List (S23)) ([] : List (S23)) ([] : List (S23))) else (some (([] : List (S23)),([] : List (S23)),([] : List (S23)),bt113.2.1,bt113.2.2)))) = some (r1,r2,r3,r4,r5):=h
 clear h
 replace H:=Option.bind_eq_some_iff.mp H
 obtain ⟨⟨t113,t116,t117⟩,A20,H⟩:=H
 replace H : (if t116 = 0 then (sr30_Parse.l0 k a0 t113 0 ([] : List (S23)) ([] : List (S23)) ([] : List (S23))) else (some (([] : List (S23)),([] : List (S23)),([] : List (S23)),t116,t117))) = some (r1,r2,r3,r4,r5):=H
 have A2:=aq A20
 clear A20
 by_cases c3 : t116 = 0
 rotate_left
 · rw [if_neg c3] at H
   have c3b0 : (t116 == 0) = false:=beq_eq_false_iff_ne.mpr c3
   have c3b1 : (t116 != 0) = true:=bne_iff_ne.mpr c3
   simp only [Option.some.injEq,Prod.mk.injEq] at H
   obtain ⟨rfl,rfl,rfl,rfl,rfl⟩:=H
   go_enter Tryz.func16,Tryz.ntmps16
   try go_wp2_with (first|((with_reducible refine gate_dst (N:=2) rfl ?_);refine box_event rfl (N:=2) rfl (cs:=#[.slice none 0 0,.slice none 0 0,.slice none 0 0]) (t:=34) gS ?_;intro gb111 hg w127 hbox hb;have BK111:=aq (hbox);have GE111:=aq ((GN hg : w.heap.size ≤ gb111));replace HB:=aq (below_step bH hb);clear hb hbox hg)|((with_reducible refine gate_dst (N:=3) rfl ?_);refine box_event rfl (N:=3) rfl (cs:=#[.int .i64 0,.int .i64 0]) (t:=40) gS ?_;intro gb112 hg w128 hbox hb;have BK112:=aq (hbox);have GE112:=aq ((GN hg : w.heap.size ≤ gb112));have NB111_112:=aq (NL hg BK111);have NB112_111:=aq (NG hg BK111);replace BK111:=KN BK111 hb;replace HB:=aq (below_step bH hb);clear hb hbox hg)|((with_reducible refine gate_callee (f:=33) rfl ?_);refine goesL_ (some 15) rfl rfl Tryz.func33 (by kernel_rfl) rfl #[.string a0] rfl eA ?_;(with_reducible refine (sr04_Lines.calls a0 t113 t116 t117 _ A2.out).mono ?_);rintro e w129 ⟨v114,rfl,ho0,hb⟩;refine ⟨_,rfl,?_⟩;have HO115:=aq (Kd.R_lower ho0 (below_size bH));replace BK111:=KN BK111 hb;replace BK112:=KN BK112 hb;replace HB:=aq (below_step bH hb);(try clear hb);(try clear hb2);(try clear hk);(try clear hi);(try clear ho0))|((with_reducible refine gate_dst (N:=5) rfl ?_);refine box_event rfl (N:=5) rfl (cs:=#[.int .i64 0,.int .i64 0]) (t:=40) gS ?_;intro gb118 hg w130 hbox hb;have BK118:=aq (hbox);have GE118:=aq ((GN hg : w.heap.size ≤ gb118));have NB111_118:=aq (NL hg BK111);have NB118_111:=aq (NG hg BK111);have NB112_118:=aq (NL hg BK112);have NB118_112:=aq (NG hg BK112);replace HO115:=RN HO115 hb;replace BK111:=KN BK111 hb;replace BK112:=KN BK112 hb;replace HB:=aq (below_step bH hb);clear hb hbox hg;have hnb131:=NB118_111.out;have hnc131:=NB111_118.out;have hnb132:=NB118_112.out;have hnc132:=NB112_118.out;have hcz133_0 : w130.cell? ⟨gb118,0,none⟩ = some (.int .i64 0):=(blk_cell BK118.out 0).trans rfl;have hcz133_1 : w130.cell? ⟨gb118,1,none⟩ = some (.int .i64 0):=(blk_cell BK118.out 1).trans rfl;have hfz133_0:=blk_frozen BK118.out 0;have hfz133_1:=blk_frozen BK118.out 1))
   have n0_ : Aside0 (Kd.R Kd.string 9 ((w130.setCell ⟨gb118,0,none⟩ (.int .i64 t116)).setCell ⟨gb118,1,none⟩ (.int .i64 t117)) w.heap.size (fun _ => True) v114 t113):=⟨by (with_reducible repeat (first|apply Kd.R_alloc|apply Kd.R_drewN|apply Kd.R_drew));exact Kd.R_mono (RF gb118 1 (RF gb118 0 (Kd.R_types HO115.out BK118.out (by decide)) (.int .i64 t116)) (.int .i64 t117)) (fun _ hk => trivial)⟩
   have n1_ : Aside0 (((w130.setCell ⟨gb118,0,none⟩ (.int .i64 t116)).setCell ⟨gb118,1,none⟩ (.int .i64 t117)).heap[gb111]? = some (.cells #[.slice none 0 0,.slice none 0 0,.slice none 0 0] 34 (0,0))):=⟨by refine KU ?_;refine blk_far ?_ NB111_118.out _;refine KU ?_;refine blk_far ?_ NB111_118.out _;refine KU ?_;exact BK111.out⟩
   have n2_ : Aside0 (((w130.setCell ⟨gb118,0,none⟩ (.int .i64 t116)).setCell ⟨gb118,1,none⟩ (.int .i64 t117)).heap[gb112]? = some (.cells #[.int .i64 0,.int .i64 0] 40 (0,0))):=⟨by refine KU ?_;refine blk_far ?_ NB112_118.out _;refine KU ?_;refine blk_far ?_ NB112_118.out _;refine KU ?_;exact BK112.out⟩
   have n3_ : Aside0 (((w130.setCell ⟨gb118,0,none⟩ (.int .i64 t116)).setCell ⟨gb118,1,none⟩ (.int .i64 t117)).heap[gb118]? = some (.cells #[.int .i64 t116,.int .i64 t117] 40 (0,0))):=⟨by refine KU ?_;refine blk_put (cs:=#[.int .i64 t116,.int .i64 0]) ?_ 1 _ rfl;refine KU ?_;refine blk_put (cs:=#[.int .i64 0,.int .i64 0]) ?_ 0 _ rfl;refine KU ?_;exact BK118.out⟩
   have n4_ : Aside0 (Below w.heap.size w ((w130.setCell ⟨gb118,0,none⟩ (.int .i64 t116)).setCell ⟨gb118,1,none⟩ (.int .i64 t117))):=⟨bH⟩
   (try clear HO115)
   (try clear BK111)
   (try clear BK112)
   (try clear BK118)
   (try clear HB)
   generalize ((w130.setCell ⟨gb118,0,none⟩ (.int .i64 t116)).setCell ⟨gb118,1,none⟩ (.int .i64 t117)) = w134 at n0_ n1_ n2_ n3_ n4_ ⊢
   have HO115:=n0_
   have BK111:=n1_
   have BK112:=n2_
   have BK118:=n3_
   have HB:=n4_
   clear n0_ n1_ n2_ n3_ n4_
   replace HO115:=aq (Kd.R_drew HO115.out)
   replace BK111:=aq (blk_drew BK111.out)
   replace BK112:=aq (blk_drew BK112.out)
   replace BK118:=aq (blk_drew BK118.out)
   replace HB:=aq (below_drew1 HB.out)
   refine start_ (n:=4) (S:=fun w' => w'.cell? ⟨gb118,0,none⟩ = some (.int .i64 t116) ∧ w'.cell? ⟨gb118,1,none⟩ = some (.int .i64 t117)) (ds:=[]) #[false,false,false,false] (by kernel_rfl) rfl rfl ⟨(blk_cell BK118.out 0).trans rfl,(blk_cell BK118.out 1).trans rfl⟩ (fun hHeld => ?_)
   generalize w134.drew = w135 at HO115 BK111 BK112 BK118 HB hHeld ⊢
   refine pure_ (i:=0) (N:=some 21) (v:=?_) (a':=?_) #[true,false,false,false] rfl rfl (by kernel_rfl) (fun _ _ _ h => h) (Or.inl ⟨by rfl,?_⟩) ?_ ?_
   rotate_left
   · intro w'
     go_simp
     with_reducible rfl
   rotate_left
   · simp only [Act.put,List.setIfInBounds_toArray,List.set_cons_zero,List.set_cons_succ,i64_w,i32_w]
     rfl
   refine take_ (i:=1) (N:=some 22) (v:=?_) (a':=?_) #[true,true,false,false] rfl rfl (by kernel_rfl) (fun _ _ _ h => h) (Or.inl ⟨by rfl,?_⟩) hHeld ?_ ?_
   rotate_left
   · rintro w' ⟨s0,s1⟩
     go_simp
     with_reducible rfl
   rotate_left
   · simp only [Act.put,List.setIfInBounds_toArray,List.set_cons_zero,List.set_cons_succ,i64_w,i32_w]
     rfl
   refine one_ (i:=2) (N:=none) #[true,true,true,false] rfl rfl (by kernel_rfl) (by decide) (fun K hK => ?_)
   have hs136 : w135.cell? ⟨gb111,0,none⟩ = some (.slice none 0 0):=(blk_cell BK111.out 0).trans rfl
   have hfs136:=blk_frozen BK111.out 0
   have hns136_1:=NB112_111.out
   have hns136_2:=NB118_111.out
   have hms136_1:=NB111_112.out
   have hms136_2:=NB111_118.out
   have hs137 : w135.cell? ⟨gb111,1,none⟩ = some (.slice none 0 0):=(blk_cell BK111.out 1).trans rfl
   have hfs137:=blk_frozen BK111.out 1
   have hns137_1:=NB112_111.out
   have hns137_2:=NB118_111.out
   have hms137_1:=NB111_112.out
   have hms137_2:=NB111_118.out
   have hs138 : w135.cell? ⟨gb111,2,none⟩ = some (.slice none 0 0):=(blk_cell BK111.out 2).trans rfl
   have hfs138:=blk_frozen BK111.out 2
   have hns138_1:=NB112_111.out
   have hns138_2:=NB118_111.out
   have hms138_1:=NB111_112.out
   have hms138_2:=NB111_118.out
   refine skip_ (w1:=?_) (by rfl) rfl ?_ ?_
   rotate_left
   · go_simp
     rfl
   refine hK.out _ _ ⟨((cell_far (p:=⟨gb111,_,none⟩) NB118_111.out _).trans (((cell_far (p:=⟨gb111,_,none⟩) NB118_111.out _).trans (((cell_far (p:=⟨gb111,_,none⟩) NB118_111.out _).trans (hHeld.1)))))),((cell_far (p:=⟨gb111,_,none⟩) NB118_111.out _).trans (((cell_far (p:=⟨gb111,_,none⟩) NB118_111.out _).trans (((cell_far (p:=⟨gb111,_,none⟩) NB118_111.out _).trans (hHeld.2))))))⟩ (fun hHeld => ?_)
   clear hK K
   refine one_ (i:=3) (N:=none) #[true,true,true,true] rfl rfl (by kernel_rfl) (by decide) (fun K hK => ?_)
   have hs139 : w135.cell? ⟨gb112,0,none⟩ = some (.int .i64 0):=(blk_cell BK112.out 0).trans rfl
   have hfs139:=blk_frozen BK112.out 0
   have hns139_0:=NB111_112.out
   have hns139_2:=NB118_112.out
   have hms139_0:=NB112_111.out
   have hms139_2:=NB112_118.out
   have hs140 : w135.cell? ⟨gb112,1,none⟩ = some (.int .i64 0):=(blk_cell BK112.out 1).trans rfl
   have hfs140:=blk_frozen BK112.out 1
   have hns140_0:=NB111_112.out
   have hns140_2:=NB118_112.out
   have hms140_0:=NB112_111.out
   have hms140_2:=NB112_118.out
   refine skip_ (w1:=?_) (by rfl) rfl ?_ ?_
   rotate_left
   · go_simp
     rfl
   refine hK.out _ _ ⟨((cell_far (p:=⟨gb112,_,none⟩) NB118_112.out _).trans (((cell_far (p:=⟨gb112,_,none⟩) NB118_112.out _).trans (hHeld.1)))),((cell_far (p:=⟨gb112,_,none⟩) NB118_112.out _).trans (((cell_far (p:=⟨gb112,_,none⟩) NB118_112.out _).trans (hHeld.2))))⟩ (fun hHeld => ?_)
   clear hK K
   refine done_ (by kernel_rfl) ?_
   try go_wp2
   refine bodyPost_ret (results_cc rfl _ _ gb111 gb112 34 40 #[.slice none 0 0,.slice none 0 0,.slice none 0 0] #[.int .i64 t116,.int .i64 t117] (0,0) (0,0) _ _ rfl (by refine KU ?_;refine blk_far ?_ NB111_112.out _;refine KU ?_;refine blk_far ?_ NB111_112.out _;refine KU ?_;refine blk_put (cs:=#[.slice none 0 0,.slice none 0 0,.slice none 0 0]) ?_ 2 _ rfl;refine KU ?_;refine blk_put (cs:=#[.slice none 0 0,.slice none 0 0,.slice none 0 0]) ?_ 1 _ rfl;refine KU ?_;refine blk_put (cs:=#[.slice none 0 0,.slice none 0 0,.slice none 0 0]) ?_ 0 _ rfl;refine KU ?_;exact BK111.out) Tryz.underlying34 rfl (by kernel_rfl) rfl (by refine KU ?_;refine blk_put (cs:=#[.int .i64 t116,.int .i64 0]) ?_ 1 _ rfl;refine KU ?_;refine blk_put (cs:=#[.int .i64 0,.int .i64 0]) ?_ 0 _ rfl;refine KU ?_;refine blk_far ?_ NB112_111.out _;refine KU ?_;refine blk_far ?_ NB112_111.out _;refine KU ?_;refine blk_far ?_ NB112_111.out _;refine KU ?_;exact BK112.out) Tryz.underlying40 rfl (by kernel_rfl)) rfl ?_
   exact ⟨_,_,_,eR,by first|exact Kd.R_nil _ _ _ _ _|exact Kd.N_nil _ _ _ _ _|exact Kd.V_nil _ _ _ _ _|exact Kd.Q_nil _ _ _ _ _|exact Kd.S_nil _ _ _ _ _,by first|exact Kd.R_nil _ _ _ _ _|exact Kd.N_nil _ _ _ _ _|exact Kd.V_nil _ _ _ _ _|exact Kd.Q_nil _ _ _ _ _|exact Kd.S_nil _ _ _ _ _,by first|exact Kd.R_nil _ _ _ _ _|exact Kd.N_nil _ _ _ _ _|exact Kd.V_nil _ _ _ _ _|exact Kd.Q_nil _ _ _ _ _|exact Kd.S_nil _ _ _ _ _,bH⟩
 rw [if_pos c3] at H
 have c3b0 : (t116 == 0) = true:=beq_iff_eq.mpr c3
 have c3b1 : (t116 != 0) = false:=bne_eq_false_iff_eq.mpr c3
 clear c3
 have H':=aq H
 clear H
 go_enter Tryz.func16,Tryz.ntmps16
 go_wp2_with (first|((with_reducible refine gate_dst (N:=2) rfl ?_);refine box_event rfl (N:=2) rfl (cs:=#[.slice none 0 0,.slice none 0 0,.slice none 0 0]) (t:=34) gS ?_;intro gb111 hg w4 hbox hb;have BK111:=aq (hbox);have GE111:=aq ((GN hg : w.heap.size ≤ gb111));replace HB:=aq (below_step bH hb);clear hb hbox hg)|((with_reducible refine gate_dst (N:=3) rfl ?_);refine box_event rfl (N:=3) rfl (cs:=#[.int .i64 0,.int .i64 0]) (t:=40) gS ?_;intro gb112 hg w5 hbox hb;have BK112:=aq (hbox);have GE112:=aq ((GN hg : w.heap.size ≤ gb112));have NB111_112:=aq (NL hg BK111);have NB112_111:=aq (NG hg BK111);replace BK111:=KN BK111 hb;replace HB:=aq (below_step bH hb);clear hb hbox hg)|((with_reducible refine gate_callee (f:=33) rfl ?_);refine goesL_ (some 15) rfl rfl Tryz.func33 (by kernel_rfl) rfl #[.string a0] rfl eA ?_;(with_reducible refine (sr04_Lines.calls a0 t113 t116 t117 _ A2.out).mono ?_);rintro e w6 ⟨v114,rfl,ho0,hb⟩;refine ⟨_,rfl,?_⟩;have HO115:=aq (Kd.R_lower ho0 (below_size bH));replace BK111:=KN BK111 hb;replace BK112:=KN BK112 hb;replace HB:=aq (below_step bH hb);(try clear hb);(try clear hb2);(try clear hk);(try clear hi);(try clear ho0))|((with_reducible refine gate_dst (N:=5) rfl ?_);refine box_event rfl (N:=5) rfl (cs:=#[.int .i64 0,.int .i64 0]) (t:=40) gS ?_;intro gb118 hg w7 hbox hb;have BK118:=aq (hbox);have GE118:=aq ((GN hg : w.heap.size ≤ gb118));have NB111_118:=aq (NL hg BK111);have NB118_111:=aq (NG hg BK111);have NB112_118:=aq (NL hg BK112);have NB118_112:=aq (NG hg BK112);replace HO115:=RN HO115 hb;replace BK111:=KN BK111 hb;replace BK112:=KN BK112 hb;replace HB:=aq (below_step bH hb);clear hb hbox hg;have hnb8:=NB118_111.out;have hnc8:=NB111_118.out;have hnb9:=NB118_112.out;have hnc9:=NB112_118.out;have hcz10_0 : w7.cell? ⟨gb118,0,none⟩ = some (.int .i64 0):=(blk_cell BK118.out 0).trans rfl;have hcz10_1 : w7.cell? ⟨gb118,1,none⟩ = some (.int .i64 0):=(blk_cell BK118.out 1).trans rfl;have hfz10_0:=blk_frozen BK118.out 0;have hfz10_1:=blk_frozen BK118.out 1)|((with_reducible refine gate_dst (N:=6) rfl ?_);refine box_event rfl (N:=6) rfl (cs:=#[.slice none 0 0,.slice none 0 0,.slice none 0 0]) (t:=34) gS ?_;intro gb119 hg w11 hbox hb;have BK119:=aq (hbox);have GE119:=aq ((GN hg : w.heap.size ≤ gb119));have NB111_119:=aq ((by rw [hg];exact Nat.ne_of_lt (blk_lt (g:=gb111) (o:=.cells #[.slice none 0 0,.slice none 0 0,.slice none 0 0] 34 (0,0)) (by refine KU ?_;refine blk_far ?_ NB111_118.out _;refine KU ?_;refine blk_far ?_ NB111_118.out _;refine KU ?_;exact BK111.out)) : gb111 ≠ gb119));have NB119_111:=aq ((by rw [hg];exact Nat.ne_of_gt (blk_lt (g:=gb111) (o:=.cells #[.slice none 0 0,.slice none 0 0,.slice none 0 0] 34 (0,0)) (by refine KU ?_;refine blk_far ?_ NB111_118.out _;refine KU ?_;refine blk_far ?_ NB111_118.out _;refine KU ?_;exact BK111.out)) : gb119 ≠ gb111));have NB112_119:=aq ((by rw [hg];exact Nat.ne_of_lt (blk_lt (g:=gb112) (o:=.cells #[.int .i64 0,.int .i64 0] 40 (0,0)) (by refine KU ?_;refine blk_far ?_ NB112_118.out _;refine KU ?_;refine blk_far ?_ NB112_118.out _;refine KU ?_;exact BK112.out)) : gb112 ≠ gb119));have NB119_112:=aq ((by rw [hg];exact Nat.ne_of_gt (blk_lt (g:=gb112) (o:=.cells #[.int .i64 0,.int .i64 0] 40 (0,0)) (by refine KU ?_;refine blk_far ?_ NB112_118.out _;refine KU ?_;refine blk_far ?_ NB112_118.out _;refine KU ?_;exact BK112.out)) : gb119 ≠ gb112));have NB118_119:=aq ((by rw [hg];exact Nat.ne_of_lt (blk_lt (g:=gb118) (o:=.cells #[.int .i64 t116,.int .i64 t117] 40 (0,0)) (by refine KU ?_;refine blk_put (cs:=#[.int .i64 t116,.int .i64 0]) ?_ 1 _ rfl;refine KU ?_;refine blk_put (cs:=#[.int .i64 0,.int .i64 0]) ?_ 0 _ rfl;refine KU ?_;exact BK118.out)) : gb118 ≠ gb119));have NB119_118:=aq ((by rw [hg];exact Nat.ne_of_gt (blk_lt (g:=gb118) (o:=.cells #[.int .i64 t116,.int .i64 t117] 40 (0,0)) (by refine KU ?_;refine blk_put (cs:=#[.int .i64 t116,.int .i64 0]) ?_ 1 _ rfl;refine KU ?_;refine blk_put (cs:=#[.int .i64 0,.int .i64 0]) ?_ 0 _ rfl;refine KU ?_;exact BK118.out)) : gb119 ≠ gb118));replace HO115:=aq (Kd.R_below (by (with_reducible repeat (first|apply Kd.R_alloc|apply Kd.R_drewN|apply Kd.R_drew));exact (Kd.R_mono (RF gb118 1 (RF gb118 0 (Kd.R_types HO115.out BK118.out (by decide)) (.int .i64 t116)) (.int .i64 t117)) (fun _ h_ => h_.1))) hb);replace BK111:=aq (blk_below (g:=gb111) (o:=.cells #[.slice none 0 0,.slice none 0 0,.slice none 0 0] 34 (0,0)) (by refine KU ?_;refine blk_far ?_ NB111_118.out _;refine KU ?_;refine blk_far ?_ NB111_118.out _;refine KU ?_;exact BK111.out) hb);replace BK112:=aq (blk_below (g:=gb112) (o:=.cells #[.int .i64 0,.int .i64 0] 40 (0,0)) (by refine KU ?_;refine blk_far ?_ NB112_118.out _;refine KU ?_;refine blk_far ?_ NB112_118.out _;refine KU ?_;exact BK112.out) hb);replace BK118:=aq (blk_below (g:=gb118) (o:=.cells #[.int .i64 t116,.int .i64 t117] 40 (0,0)) (by refine KU ?_;refine blk_put (cs:=#[.int .i64 t116,.int .i64 0]) ?_ 1 _ rfl;refine KU ?_;refine blk_put (cs:=#[.int .i64 0,.int .i64 0]) ?_ 0 _ rfl;refine KU ?_;exact BK118.out) hb);replace HB:=aq (below_step bH hb);clear hb hbox hg))
 go_loopg [7] k (fun kq v7 w' => ∃ (x7_1 : Int) (x113000_1 : Int) (x113001_1 : Int) (x120000_1 : List (S23)) (x120001_1 : List (S23)) (x120002_1 : List (S23)) (u120000 : Value) (u120001 : Value) (u120002 : Value),v7 = .int .i64 x7_1 ∧ Aside0 (sr30_Parse.l0 kq a0 t113 x7_1 x120000_1 x120001_1 x120002_1 = some (r1,r2,r3,r4,r5)) ∧ Aside0 (kq ≤ k) ∧ Aside0 (Kd.R Kd.string 9 w' w.heap.size (fun _ => True) v114 t113) ∧ Aside0 (Kd.R k23 23 w' w.heap.size (fun k_ => some k_ ≠ (u120001 : Value).ownBlock ∧ some k_ ≠ (u120002 : Value).ownBlock) u120000 x120000_1) ∧ Aside0 (Kd.R k23 23 w' w.heap.size (fun k_ => some k_ ≠ (u120000 : Value).ownBlock ∧ some k_ ≠ (u120002 : Value).ownBlock) u120001 x120001_1) ∧ Aside0 (Kd.R k23 23 w' w.heap.size (fun k_ => some k_ ≠ (u120000 : Value).ownBlock ∧ some k_ ≠ (u120001 : Value).ownBlock) u120002 x120002_1) ∧ Aside0 (w'.heap[gb111]? = some (.cells #[(.slice none 0 0),(.slice none 0 0),(.slice none 0 0)] 34 (0,0))) ∧ Aside0 (w'.heap[gb112]? = some (.cells #[.int .i64 x113000_1,.int .i64 x113001_1] 40 (0,0))) ∧ Aside0 (w'.heap[gb118]? = some (.cells #[.int .i64 t116,.int .i64 t117] 40 (0,0))) ∧ Aside0 (w'.heap[gb119]? = some (.cells #[u120000,u120001,u120002] 34 (0,0))) ∧ Aside0 (Below w.heap.size w w'))
 case atStart => exact ⟨(0),(0),(0),(([] : List (S23))),(([] : List (S23))),(([] : List (S23))),(.slice none 0 0),(.slice none 0 0),(.slice none 0 0),eS,H',⟨Nat.le_refl _⟩,⟨by (with_reducible repeat (first|apply Kd.R_alloc|apply Kd.R_drewN|apply Kd.R_drew));exact HO115.out⟩,⟨by first|exact Kd.R_nil _ _ _ _ _|exact Kd.N_nil _ _ _ _ _|exact Kd.V_nil _ _ _ _ _|exact Kd.Q_nil _ _ _ _ _|exact Kd.S_nil _ _ _ _ _⟩,⟨by first|exact Kd.R_nil _ _ _ _ _|exact Kd.N_nil _ _ _ _ _|exact Kd.V_nil _ _ _ _ _|exact Kd.Q_nil _ _ _ _ _|exact Kd.S_nil _ _ _ _ _⟩,⟨by first|exact Kd.R_nil _ _ _ _ _|exact Kd.N_nil _ _ _ _ _|exact Kd.V_nil _ _ _ _ _|exact Kd.Q_nil _ _ _ _ _|exact Kd.S_nil _ _ _ _ _⟩,⟨KU BK111.out⟩,⟨KU BK112.out⟩,⟨KU BK118.out⟩,⟨KU BK119.out⟩,⟨bH⟩⟩
 case round =>
 clear H'
 (try clear c3);(try clear c3b0);(try clear c3b1);(try clear hcz10_0);(try clear hcz10_1);(try clear hfz10_0);(try clear hfz10_1)
 obtain ⟨x7_1,x113000_1,x113001_1,x120000_1,x120001_1,x120002_1,u120000,u120001,u120002,rfl,HA,HK1,HO_4,HO_120000,HO_120001,HO_120002,BK111,BK112,BK118,BK119,HB⟩:=hrel
 cases gk with
 | zero => exact absurd HA.out (by simp [sr30_Parse.l0])
 | succ k1 =>
 have H:=HA.out
 clear HA
 simp only [sr30_Parse.l0] at H
 by_cases c12 : x7_1 < (t113.length : Int)
 rotate_left
 · rw [if_neg c12] at H
   have c12b0 : decide (x7_1 < (t113.length : Int)) = false:=decide_eq_false c12
   clear c12
   replace H:=Option.bind_eq_some_iff.mp H
   obtain ⟨⟨t120,t121⟩,A810,H⟩:=H
   replace H : (if t121 = 0 then (if t120.toList = a0.toList then (some (x120000_1,x120001_1,x120002_1,0,0)) else (some (([] : List (S23)),([] : List (S23)),([] : List (S23)),5,0))) else (some (([] : List (S23)),([] : List (S23)),([] : List (S23)),5,0))) = some (r1,r2,r3,r4,r5):=H
   have A81:=aq A810
   clear A810
   by_cases c82 : t121 = 0
   rotate_left
   · rw [if_neg c82] at H
     have c82b0 : (t121 == 0) = false:=beq_eq_false_iff_ne.mpr c82
     have c82b1 : (t121 != 0) = true:=bne_iff_ne.mpr c82
     simp only [Option.some.injEq,Prod.mk.injEq] at H
     obtain ⟨rfl,rfl,rfl,rfl,rfl⟩:=H
     obtain ⟨Ao113,co113,eo113⟩:=Kd.R_slice HO_4.out
     subst eo113
     have hnb114:=NB119_111.out
     have hnc114:=NB111_119.out
     have hnb115:=NB119_112.out
     have hnc115:=NB112_119.out
     have hnb116:=NB119_118.out
     have hnc116:=NB118_119.out
     have hcz117_0 : wr.cell? ⟨gb119,0,none⟩ = some (u120000):=(blk_cell BK119.out 0).trans rfl
     have hcz117_1 : wr.cell? ⟨gb119,1,none⟩ = some (u120001):=(blk_cell BK119.out 1).trans rfl
     have hcz117_2 : wr.cell? ⟨gb119,2,none⟩ = some (u120002):=(blk_cell BK119.out 2).trans rfl
     have hfz117_0:=blk_frozen BK119.out 0
     have hfz117_1:=blk_frozen BK119.out 1
     have hfz117_2:=blk_frozen BK119.out 2
     obtain ⟨Ao118,co118,eo118⟩:=Kd.R_slice HO_120000.out
     subst eo118
     obtain ⟨Ao119,co119,eo119⟩:=Kd.R_slice HO_120001.out
     subst eo119
     obtain ⟨Ao120,co120,eo120⟩:=Kd.R_slice HO_120002.out
     subst eo120
     go_wp2_with (first|((with_reducible refine gate_callee (f:=14) rfl ?_);refine goesL_ (some 69) rfl rfl Tryz.func14 (by kernel_rfl) rfl #[.agg #[.slice Ao118 x120000_1.length co118,.slice Ao119 x120001_1.length co119,.slice Ao120 x120002_1.length co120]] rfl eA ?_;(with_reducible refine (sr30_Print.calls k1 _ _ x120000_1 _ _ x120001_1 _ _ x120002_1 t120 t121 _ ?side1 ?side2 ?side3 ?side4 ?side5 ?side6 A81.out).mono ?_);(case side1 => repeat (first|exact (Kd.R_reads' HO_120000.out).2.2|(with_reducible refine Kd.C_alloc ?_ _)|(with_reducible refine Kd.C_drewN ?_ _)|(with_reducible refine Kd.C_drew ?_)));(case side2 => exact (Kd.R_reads' HO_120000.out).2.1);(case side3 => repeat (first|exact (Kd.R_reads' HO_120001.out).2.2|(with_reducible refine Kd.C_alloc ?_ _)|(with_reducible refine Kd.C_drewN ?_ _)|(with_reducible refine Kd.C_drew ?_)));(case side4 => exact (Kd.R_reads' HO_120001.out).2.1);(case side5 => repeat (first|exact (Kd.R_reads' HO_120002.out).2.2|(with_reducible refine Kd.C_alloc ?_ _)|(with_reducible refine Kd.C_drewN ?_ _)|(with_reducible refine Kd.C_drew ?_)));(case side6 => exact (Kd.R_reads' HO_120002.out).2.1);rintro e w121 ⟨rfl,hb⟩;refine ⟨_,rfl,?_⟩;replace HO_4:=RN HO_4 hb;replace HO_120000:=RN HO_120000 hb;replace HO_120001:=RN HO_120001 hb;replace HO_120002:=RN HO_120002 hb;replace BK111:=KN BK111 hb;replace BK112:=KN BK112 hb;replace BK118:=KN BK118 hb;replace BK119:=KN BK119 hb;replace HB:=aq (below_step bH hb);(try clear hb);(try clear hb2);(try clear hk);(try clear hi);have hnb122:=NB111_112.out;have hnc122:=NB112_111.out;have hnb123:=NB111_118.out;have hnc123:=NB118_111.out;have hcz124_0 : w121.cell? ⟨gb111,0,none⟩ = some (.slice none 0 0):=(blk_cell BK111.out 0).trans rfl;have hcz124_1 : w121.cell? ⟨gb111,1,none⟩ = some (.slice none 0 0):=(blk_cell BK111.out 1).trans rfl;have hcz124_2 : w121.cell? ⟨gb111,2,none⟩ = some (.slice none 0 0):=(blk_cell BK111.out 2).trans rfl;have hfz124_0:=blk_frozen BK111.out 0;have hfz124_1:=blk_frozen BK111.out 1;have hfz124_2:=blk_frozen BK111.out 2;have hnb125:=NB112_118.out;have hnc125:=NB118_112.out;have hcz126_0 : w121.cell? ⟨gb112,0,none⟩ = some (.int .i64 x113000_1):=(blk_cell BK112.out 0).trans rfl;have hcz126_1 : w121.cell? ⟨gb112,1,none⟩ = some (.int .i64 x113001_1):=(blk_cell BK112.out 1).trans rfl;have hfz126_0:=blk_frozen BK112.out 0;have hfz126_1:=blk_frozen BK112.out 1))
     refine bodyPost_ret (results_cc rfl _ _ gb111 gb112 34 40 #[.slice none 0 0,.slice none 0 0,.slice none 0 0] #[.int .i64 5,.int .i64 0] (0,0) (0,0) _ _ rfl (by refine KU ?_;refine blk_far ?_ NB111_112.out _;refine KU ?_;refine blk_far ?_ NB111_112.out _;refine KU ?_;refine blk_put (cs:=#[.slice none 0 0,.slice none 0 0,.slice none 0 0]) ?_ 2 _ rfl;refine KU ?_;refine blk_put (cs:=#[.slice none 0 0,.slice none 0 0,.slice none 0 0]) ?_ 1 _ rfl;refine KU ?_;refine blk_put (cs:=#[.slice none 0 0,.slice none 0 0,.slice none 0 0]) ?_ 0 _ rfl;refine KU ?_;exact BK111.out) Tryz.underlying34 rfl (by kernel_rfl) rfl (by refine KU ?_;refine blk_put (cs:=#[.int .i64 5,.int .i64 x113001_1]) ?_ 1 _ rfl;refine KU ?_;refine blk_put (cs:=#[.int .i64 x113000_1,.int .i64 x113001_1]) ?_ 0 _ rfl;refine KU ?_;refine blk_far ?_ NB112_111.out _;refine KU ?_;refine blk_far ?_ NB112_111.out _;refine KU ?_;refine blk_far ?_ NB112_111.out _;refine KU ?_;exact BK112.out) Tryz.underlying40 rfl (by kernel_rfl)) rfl ?_
     exact ⟨_,_,_,eR,by first|exact Kd.R_nil _ _ _ _ _|exact Kd.N_nil _ _ _ _ _|exact Kd.V_nil _ _ _ _ _|exact Kd.Q_nil _ _ _ _ _|exact Kd.S_nil _ _ _ _ _,by first|exact Kd.R_nil _ _ _ _ _|exact Kd.N_nil _ _ _ _ _|exact Kd.V_nil _ _ _ _ _|exact Kd.Q_nil _ _ _ _ _|exact Kd.S_nil _ _ _ _ _,by first|exact Kd.R_nil _ _ _ _ _|exact Kd.N_nil _ _ _ _ _|exact Kd.V_nil _ _ _ _ _|exact Kd.Q_nil _ _ _ _ _|exact Kd.S_nil _ _ _ _ _,bH⟩
   rw [if_pos c82] at H
   have c82b0 : (t121 == 0) = true:=beq_iff_eq.mpr c82
   have c82b1 : (t121 != 0) = false:=bne_eq_false_iff_eq.mpr c82
   clear c82
   by_cases c83 : t120.toList = a0.toList
   rotate_left
   · rw [if_neg c83] at H
     have c83b0 : (t120.toList == a0.toList) = false:=beq_eq_false_iff_ne.mpr c83
     have c83b1 : (t120.toList != a0.toList) = true:=bne_iff_ne.mpr c83
     simp only [Option.some.injEq,Prod.mk.injEq] at H
     obtain ⟨rfl,rfl,rfl,rfl,rfl⟩:=H
     obtain ⟨Ao99,co99,eo99⟩:=Kd.R_slice HO_4.out
     subst eo99
     have hnb100:=NB119_111.out
     have hnc100:=NB111_119.out
     have hnb101:=NB119_112.out
     have hnc101:=NB112_119.out
     have hnb102:=NB119_118.out
     have hnc102:=NB118_119.out
     have hcz103_0 : wr.cell? ⟨gb119,0,none⟩ = some (u120000):=(blk_cell BK119.out 0).trans rfl
     have hcz103_1 : wr.cell? ⟨gb119,1,none⟩ = some (u120001):=(blk_cell BK119.out 1).trans rfl
     have hcz103_2 : wr.cell? ⟨gb119,2,none⟩ = some (u120002):=(blk_cell BK119.out 2).trans rfl
     have hfz103_0:=blk_frozen BK119.out 0
     have hfz103_1:=blk_frozen BK119.out 1
     have hfz103_2:=blk_frozen BK119.out 2
     obtain ⟨Ao104,co104,eo104⟩:=Kd.R_slice HO_120000.out
     subst eo104
     obtain ⟨Ao105,co105,eo105⟩:=Kd.R_slice HO_120001.out
     subst eo105
     obtain ⟨Ao106,co106,eo106⟩:=Kd.R_slice HO_120002.out
     subst eo106
     go_wp2_with (first|((with_reducible refine gate_callee (f:=14) rfl ?_);refine goesL_ (some 69) rfl rfl Tryz.func14 (by kernel_rfl) rfl #[.agg #[.slice Ao104 x120000_1.length co104,.slice Ao105 x120001_1.length co105,.slice Ao106 x120002_1.length co106]] rfl eA ?_;(with_reducible refine (sr30_Print.calls k1 _ _ x120000_1 _ _ x120001_1 _ _ x120002_1 t120 t121 _ ?side1 ?side2 ?side3 ?side4 ?side5 ?side6 A81.out).mono ?_);(case side1 => repeat (first|exact (Kd.R_reads' HO_120000.out).2.2|(with_reducible refine Kd.C_alloc ?_ _)|(with_reducible refine Kd.C_drewN ?_ _)|(with_reducible refine Kd.C_drew ?_)));(case side2 => exact (Kd.R_reads' HO_120000.out).2.1);(case side3 => repeat (first|exact (Kd.R_reads' HO_120001.out).2.2|(with_reducible refine Kd.C_alloc ?_ _)|(with_reducible refine Kd.C_drewN ?_ _)|(with_reducible refine Kd.C_drew ?_)));(case side4 => exact (Kd.R_reads' HO_120001.out).2.1);(case side5 => repeat (first|exact (Kd.R_reads' HO_120002.out).2.2|(with_reducible refine Kd.C_alloc ?_ _)|(with_reducible refine Kd.C_drewN ?_ _)|(with_reducible refine Kd.C_drew ?_)));(case side6 => exact (Kd.R_reads' HO_120002.out).2.1);rintro e w107 ⟨rfl,hb⟩;refine ⟨_,rfl,?_⟩;replace HO_4:=RN HO_4 hb;replace HO_120000:=RN HO_120000 hb;replace HO_120001:=RN HO_120001 hb;replace HO_120002:=RN HO_120002 hb;replace BK111:=KN BK111 hb;replace BK112:=KN BK112 hb;replace BK118:=KN BK118 hb;replace BK119:=KN BK119 hb;replace HB:=aq (below_step bH hb);(try clear hb);(try clear hb2);(try clear hk);(try clear hi);have hnb108:=NB111_112.out;have hnc108:=NB112_111.out;have hnb109:=NB111_118.out;have hnc109:=NB118_111.out;have hcz110_0 : w107.cell? ⟨gb111,0,none⟩ = some (.slice none 0 0):=(blk_cell BK111.out 0).trans rfl;have hcz110_1 : w107.cell? ⟨gb111,1,none⟩ = some (.slice none 0 0):=(blk_cell BK111.out 1).trans rfl;have hcz110_2 : w107.cell? ⟨gb111,2,none⟩ = some (.slice none 0 0):=(blk_cell BK111.out 2).trans rfl;have hfz110_0:=blk_frozen BK111.out 0;have hfz110_1:=blk_frozen BK111.out 1;have hfz110_2:=blk_frozen BK111.out 2;have hnb111:=NB112_118.out;have hnc111:=NB118_112.out;have hcz112_0 : w107.cell? ⟨gb112,0,none⟩ = some (.int .i64 x113000_1):=(blk_cell BK112.out 0).trans rfl;have hcz112_1 : w107.cell? ⟨gb112,1,none⟩ = some (.int .i64 x113001_1):=(blk_cell BK112.out 1).trans rfl;have hfz112_0:=blk_frozen BK112.out 0;have hfz112_1:=blk_frozen BK112.out 1))
     refine bodyPost_ret (results_cc rfl _ _ gb111 gb112 34 40 #[.slice none 0 0,.slice none 0 0,.slice none 0 0] #[.int .i64 5,.int .i64 0] (0,0) (0,0) _ _ rfl (by refine KU ?_;refine blk_far ?_ NB111_112.out _;refine KU ?_;refine blk_far ?_ NB111_112.out _;refine KU ?_;refine blk_put (cs:=#[.slice none 0 0,.slice none 0 0,.slice none 0 0]) ?_ 2 _ rfl;refine KU ?_;refine blk_put (cs:=#[.slice none 0 0,.slice none 0 0,.slice none 0 0]) ?_ 1 _ rfl;refine KU ?_;refine blk_put (cs:=#[.slice none 0 0,.slice none 0 0,.slice none 0 0]) ?_ 0 _ rfl;refine KU ?_;exact BK111.out) Tryz.underlying34 rfl (by kernel_rfl) rfl (by refine KU ?_;refine blk_put (cs:=#[.int .i64 5,.int .i64 x113001_1]) ?_ 1 _ rfl;refine KU ?_;refine blk_put (cs:=#[.int .i64 x113000_1,.int .i64 x113001_1]) ?_ 0 _ rfl;refine KU ?_;refine blk_far ?_ NB112_111.out _;refine KU ?_;refine blk_far ?_ NB112_111.out _;refine KU ?_;refine blk_far ?_ NB112_111.out _;refine KU ?_;exact BK112.out) Tryz.underlying40 rfl (by kernel_rfl)) rfl ?_
     exact ⟨_,_,_,eR,by first|exact Kd.R_nil _ _ _ _ _|exact Kd.N_nil _ _ _ _ _|exact Kd.V_nil _ _ _ _ _|exact Kd.Q_nil _ _ _ _ _|exact Kd.S_nil _ _ _ _ _,by first|exact Kd.R_nil _ _ _ _ _|exact Kd.N_nil _ _ _ _ _|exact Kd.V_nil _ _ _ _ _|exact Kd.Q_nil _ _ _ _ _|exact Kd.S_nil _ _ _ _ _,by first|exact Kd.R_nil _ _ _ _ _|exact Kd.N_nil _ _ _ _ _|exact Kd.V_nil _ _ _ _ _|exact Kd.Q_nil _ _ _ _ _|exact Kd.S_nil _ _ _ _ _,bH⟩
   rw [if_pos c83] at H
   have c83b0 : (t120.toList == a0.toList) = true:=beq_iff_eq.mpr c83
   have c83b1 : (t120.toList != a0.toList) = false:=bne_eq_false_iff_eq.mpr c83
   clear c83
   simp only [Option.some.injEq,Prod.mk.injEq] at H
   obtain ⟨rfl,rfl,rfl,rfl,rfl⟩:=H
   obtain ⟨Ao84,co84,eo84⟩:=Kd.R_slice HO_4.out
   subst eo84
   have hnb85:=NB119_111.out
   have hnc85:=NB111_119.out
   have hnb86:=NB119_112.out
   have hnc86:=NB112_119.out
   have hnb87:=NB119_118.out
   have hnc87:=NB118_119.out
   have hcz88_0 : wr.cell? ⟨gb119,0,none⟩ = some (u120000):=(blk_cell BK119.out 0).trans rfl
   have hcz88_1 : wr.cell? ⟨gb119,1,none⟩ = some (u120001):=(blk_cell BK119.out 1).trans rfl
   have hcz88_2 : wr.cell? ⟨gb119,2,none⟩ = some (u120002):=(blk_cell BK119.out 2).trans rfl
   have hfz88_0:=blk_frozen BK119.out 0
   have hfz88_1:=blk_frozen BK119.out 1
   have hfz88_2:=blk_frozen BK119.out 2
   obtain ⟨Ao89,co89,eo89⟩:=Kd.R_slice HO_120000.out
   subst eo89
   obtain ⟨Ao90,co90,eo90⟩:=Kd.R_slice HO_120001.out
   subst eo90
   obtain ⟨Ao91,co91,eo91⟩:=Kd.R_slice HO_120002.out
   subst eo91
   go_wp2_with (first|((with_reducible refine gate_callee (f:=14) rfl ?_);refine goesL_ (some 69) rfl rfl Tryz.func14 (by kernel_rfl) rfl #[.agg #[.slice Ao89 x120000_1.length co89,.slice Ao90 x120001_1.length co90,.slice Ao91 x120002_1.length co91]] rfl eA ?_;(with_reducible refine (sr30_Print.calls k1 _ _ x120000_1 _ _ x120001_1 _ _ x120002_1 t120 t121 _ ?side1 ?side2 ?side3 ?side4 ?side5 ?side6 A81.out).mono ?_);(case side1 => repeat (first|exact (Kd.R_reads' HO_120000.out).2.2|(with_reducible refine Kd.C_alloc ?_ _)|(with_reducible refine Kd.C_drewN ?_ _)|(with_reducible refine Kd.C_drew ?_)));(case side2 => exact (Kd.R_reads' HO_120000.out).2.1);(case side3 => repeat (first|exact (Kd.R_reads' HO_120001.out).2.2|(with_reducible refine Kd.C_alloc ?_ _)|(with_reducible refine Kd.C_drewN ?_ _)|(with_reducible refine Kd.C_drew ?_)));(case side4 => exact (Kd.R_reads' HO_120001.out).2.1);(case side5 => repeat (first|exact (Kd.R_reads' HO_120002.out).2.2|(with_reducible refine Kd.C_alloc ?_ _)|(with_reducible refine Kd.C_drewN ?_ _)|(with_reducible refine Kd.C_drew ?_)));(case side6 => exact (Kd.R_reads' HO_120002.out).2.1);rintro e w92 ⟨rfl,hb⟩;refine ⟨_,rfl,?_⟩;replace HO_4:=RN HO_4 hb;replace HO_120000:=RN HO_120000 hb;replace HO_120001:=RN HO_120001 hb;replace HO_120002:=RN HO_120002 hb;replace BK111:=KN BK111 hb;replace BK112:=KN BK112 hb;replace BK118:=KN BK118 hb;replace BK119:=KN BK119 hb;replace HB:=aq (below_step bH hb);(try clear hb);(try clear hb2);(try clear hk);(try clear hi);have hcz93_0 : w92.cell? ⟨gb119,0,none⟩ = some (.slice Ao89 x120000_1.length co89):=(blk_cell BK119.out 0).trans rfl;have hcz93_1 : w92.cell? ⟨gb119,1,none⟩ = some (.slice Ao90 x120001_1.length co90):=(blk_cell BK119.out 1).trans rfl;have hcz93_2 : w92.cell? ⟨gb119,2,none⟩ = some (.slice Ao91 x120002_1.length co91):=(blk_cell BK119.out 2).trans rfl;have hfz93_0:=blk_frozen BK119.out 0;have hfz93_1:=blk_frozen BK119.out 1;have hfz93_2:=blk_frozen BK119.out 2;have hnb94:=NB111_112.out;have hnc94:=NB112_111.out;have hnb95:=NB111_118.out;have hnc95:=NB118_111.out;have hcz96_0 : w92.cell? ⟨gb111,0,none⟩ = some (.slice none 0 0):=(blk_cell BK111.out 0).trans rfl;have hcz96_1 : w92.cell? ⟨gb111,1,none⟩ = some (.slice none 0 0):=(blk_cell BK111.out 1).trans rfl;have hcz96_2 : w92.cell? ⟨gb111,2,none⟩ = some (.slice none 0 0):=(blk_cell BK111.out 2).trans rfl;have hfz96_0:=blk_frozen BK111.out 0;have hfz96_1:=blk_frozen BK111.out 1;have hfz96_2:=blk_frozen BK111.out 2;have hnb97:=NB112_118.out;have hnc97:=NB118_112.out;have hcz98_0 : w92.cell? ⟨gb112,0,none⟩ = some (.int .i64 x113000_1):=(blk_cell BK112.out 0).trans rfl;have hcz98_1 : w92.cell? ⟨gb112,1,none⟩ = some (.int .i64 x113001_1):=(blk_cell BK112.out 1).trans rfl;have hfz98_0:=blk_frozen BK112.out 0;have hfz98_1:=blk_frozen BK112.out 1))
   refine bodyPost_ret (results_cc rfl _ _ gb111 gb112 34 40 #[.slice Ao89 x120000_1.length co89,.slice Ao90 x120001_1.length co90,.slice Ao91 x120002_1.length co91] #[.int .i64 0,.int .i64 0] (0,0) (0,0) _ _ rfl (by refine KU ?_;refine blk_far ?_ NB111_112.out _;refine KU ?_;refine blk_far ?_ NB111_112.out _;refine KU ?_;refine blk_put (cs:=#[.slice Ao89 x120000_1.length co89,.slice Ao90 x120001_1.length co90,.slice none 0 0]) ?_ 2 _ rfl;refine KU ?_;refine blk_put (cs:=#[.slice Ao89 x120000_1.length co89,.slice none 0 0,.slice none 0 0]) ?_ 1 _ rfl;refine KU ?_;refine blk_put (cs:=#[.slice none 0 0,.slice none 0 0,.slice none 0 0]) ?_ 0 _ rfl;refine KU ?_;exact BK111.out) Tryz.underlying34 rfl (by kernel_rfl) rfl (by refine KU ?_;refine blk_put (cs:=#[.int .i64 0,.int .i64 x113001_1]) ?_ 1 _ rfl;refine KU ?_;refine blk_put (cs:=#[.int .i64 x113000_1,.int .i64 x113001_1]) ?_ 0 _ rfl;refine KU ?_;refine blk_far ?_ NB112_111.out _;refine KU ?_;refine blk_far ?_ NB112_111.out _;refine KU ?_;refine blk_far ?_ NB112_111.out _;refine KU ?_;exact BK112.out) Tryz.underlying40 rfl (by kernel_rfl)) rfl ?_
   exact ⟨_,_,_,eR,by (with_reducible repeat (first|apply Kd.R_alloc|apply Kd.R_drewN|apply Kd.R_drew));exact Kd.R_mono (RF gb112 1 (RF gb112 0 (Kd.R_far (p:=⟨gb111,2,none⟩) (Kd.R_far (p:=⟨gb111,1,none⟩) (Kd.R_far (p:=⟨gb111,0,none⟩) (Kd.R_types (Kd.R_types HO_120000.out BK111.out (by decide)) BK112.out (by decide)) (fun _ hk => hk.1.2) (.slice Ao89 x120000_1.length co89)) (fun _ hk => hk.1.2) (.slice Ao90 x120001_1.length co90)) (fun _ hk => hk.1.2) (.slice Ao91 x120002_1.length co91)) (.int .i64 0)) (.int .i64 0)) (fun _ hk => ⟨hk.1.1.1,hk.1.1.2⟩),by (with_reducible repeat (first|apply Kd.R_alloc|apply Kd.R_drewN|apply Kd.R_drew));exact Kd.R_mono (RF gb112 1 (RF gb112 0 (Kd.R_far (p:=⟨gb111,2,none⟩) (Kd.R_far (p:=⟨gb111,1,none⟩) (Kd.R_far (p:=⟨gb111,0,none⟩) (Kd.R_types (Kd.R_types HO_120001.out BK111.out (by decide)) BK112.out (by decide)) (fun _ hk => hk.1.2) (.slice Ao89 x120000_1.length co89)) (fun _ hk => hk.1.2) (.slice Ao90 x120001_1.length co90)) (fun _ hk => hk.1.2) (.slice Ao91 x120002_1.length co91)) (.int .i64 0)) (.int .i64 0)) (fun _ hk => ⟨hk.1.1.1,hk.1.1.2⟩),by (with_reducible repeat (first|apply Kd.R_alloc|apply Kd.R_drewN|apply Kd.R_drew));exact Kd.R_mono (RF gb112 1 (RF gb112 0 (Kd.R_far (p:=⟨gb111,2,none⟩) (Kd.R_far (p:=⟨gb111,1,none⟩) (Kd.R_far (p:=⟨gb111,0,none⟩) (Kd.R_types (Kd.R_types HO_120002.out BK111.out (by decide)) BK112.out (by decide)) (fun _ hk => hk.1.2) (.slice Ao89 x120000_1.length co89)) (fun _ hk => hk.1.2) (.slice Ao90 x120001_1.length co90)) (fun _ hk => hk.1.2) (.slice Ao91 x120002_1.length co91)) (.int .i64 0)) (.int .i64 0)) (fun _ hk => ⟨hk.1.1.1,hk.1.1.2⟩),bH⟩
 rw [if_pos c12] at H
 have c12b0 : decide (x7_1 < (t113.length : Int)) = true:=decide_eq_true c12
 clear c12
 by_cases c13 : 0 ≤ x7_1
 rotate_left
 · rw [if_neg c13] at H
   exact absurd H (by simp)
 rw [if_pos c13] at H
 have c13b0 : decide (0 ≤ x7_1) = true:=decide_eq_true c13
 clear c13
 replace H:=Option.bind_eq_some_iff.mp H
 obtain ⟨⟨t123,t124,t125,t126⟩,A140,H⟩:=H
 replace H : (if t126 = true then (if t123.toList = ([99,108,97,115,115] : List UInt8) then (if x120000_1.length < 4398046511104 then (sr30_Parse.l0 k1 a0 t113 (wrap64 (x7_1 + 1)) (x120000_1 ++ [(⟨t124,t125⟩ : S23)]) x120001_1 x120002_1) else (none)) else (if t123.toList = ([102,105,101,108,100] : List UInt8) then (if x120001_1.length < 4398046511104 then (sr30_Parse.l0 k1 a0 t113 (wrap64 (x7_1 + 1)) x120000_1 (x120001_1 ++ [(⟨t124,t125⟩ : S23)]) x120002_1) else (none)) else (if x120002_1.length < 4398046511104 then (sr30_Parse.l0 k1 a0 t113 (wrap64 (x7_1 + 1)) x120000_1 x120001_1 (x120002_1 ++ [(⟨t124,t125⟩ : S23)])) else (none)))) else (some (([] : List (S23)),([] : List (S23)),([] : List (S23)),1,wrap64 (x7_1 + 1)))) = some (r1,r2,r3,r4,r5):=H
 have A14:=aq A140
 clear A140
 by_cases c15 : t126 = true
 rotate_left
 · replace c15:=Bool.eq_false_iff.mpr c15
   subst c15
   have H1 : (some (([] : List (S23)),([] : List (S23)),([] : List (S23)),1,wrap64 (x7_1 + 1))) = some (r1,r2,r3,r4,r5):=by rw [if_neg (show ¬ (false = true) by decide)] at H;exact H
   clear H
   have H:=H1
   clear H1
   simp only [Option.some.injEq,Prod.mk.injEq] at H
   obtain ⟨rfl,rfl,rfl,rfl,rfl⟩:=H
   obtain ⟨Ao66,co66,eo66⟩:=Kd.R_slice HO_4.out
   subst eo66
   have p122 : 0 ≤ (x7_1 : Int):=of_decide_eq_true aS
   have q122 : x7_1 < (t113.length : Int):=of_decide_eq_true aS
   obtain ⟨ad122,e122,hx122_0⟩:=Kd.at_string (Kd.R_reads' HO_4.out).2.2 x7_1 p122 q122
   cases e122
   replace p122:=eq_true p122
   replace q122:=eq_true q122
   go_wp2_with (first|((with_reducible refine gate_callee (f:=8) rfl ?_);refine goesL_ (some 34) rfl rfl Tryz.func8 (by kernel_rfl) rfl #[.string (rdOf ByteArray.empty t113 x7_1)] rfl eA ?_;(with_reducible refine (sr30_Read.calls (rdOf ByteArray.empty t113 x7_1) t123 t124 t125 false _ A14.out).mono ?_);rintro e w67 ⟨rfl,hb⟩;refine ⟨_,rfl,?_⟩;replace HO_4:=RN HO_4 hb;replace HO_120000:=RN HO_120000 hb;replace HO_120001:=RN HO_120001 hb;replace HO_120002:=RN HO_120002 hb;replace BK111:=KN BK111 hb;replace BK112:=KN BK112 hb;replace BK118:=KN BK118 hb;replace BK119:=KN BK119 hb;replace HB:=aq (below_step bH hb);(try clear hb);(try clear hb2);(try clear hk);(try clear hi))|((with_reducible refine gate_dst (N:=9) rfl ?_);refine box_event rfl (N:=9) rfl (cs:=#[.string (⟨#[]⟩ : ByteArray),.string (⟨#[]⟩ : ByteArray)]) (t:=23) gS ?_;intro gb127 hg w68 hbox hb;have BK127:=aq (hbox);have GE127:=aq ((GN hg : w.heap.size ≤ gb127));have NB111_127:=aq (NL hg BK111);have NB127_111:=aq (NG hg BK111);have NB112_127:=aq (NL hg BK112);have NB127_112:=aq (NG hg BK112);have NB118_127:=aq (NL hg BK118);have NB127_118:=aq (NG hg BK118);have NB119_127:=aq (NL hg BK119);have NB127_119:=aq (NG hg BK119);replace HO_4:=RN HO_4 hb;replace HO_120000:=aq (Kd.R_below (Kd.R_elderB (RU HO_120000.out) gb127 (Nat.le_of_eq hg.symm)) hb);replace HO_120001:=aq (Kd.R_below (Kd.R_elderB (RU HO_120001.out) gb127 (Nat.le_of_eq hg.symm)) hb);replace HO_120002:=aq (Kd.R_below (Kd.R_elderB (RU HO_120002.out) gb127 (Nat.le_of_eq hg.symm)) hb);replace BK111:=KN BK111 hb;replace BK112:=KN BK112 hb;replace BK118:=KN BK118 hb;replace BK119:=KN BK119 hb;replace HB:=aq (below_step bH hb);clear hb hbox hg;have hnb69:=NB127_111.out;have hnc69:=NB111_127.out;have hnb70:=NB127_112.out;have hnc70:=NB112_127.out;have hnb71:=NB127_118.out;have hnc71:=NB118_127.out;have hnb72:=NB127_119.out;have hnc72:=NB119_127.out;have hcz73_0 : w68.cell? ⟨gb127,0,none⟩ = some (.string (⟨#[]⟩ : ByteArray)):=(blk_cell BK127.out 0).trans rfl;have hcz73_1 : w68.cell? ⟨gb127,1,none⟩ = some (.string (⟨#[]⟩ : ByteArray)):=(blk_cell BK127.out 1).trans rfl;have hfz73_0:=blk_frozen BK127.out 0;have hfz73_1:=blk_frozen BK127.out 1;have hnb74:=NB111_112.out;have hnc74:=NB112_111.out;have hnb75:=NB111_118.out;have hnc75:=NB118_111.out;have hnb76:=NB111_119.out;have hnc76:=NB119_111.out;have hcz77_0 : w68.cell? ⟨gb111,0,none⟩ = some (.slice none 0 0):=(blk_cell BK111.out 0).trans rfl;have hcz77_1 : w68.cell? ⟨gb111,1,none⟩ = some (.slice none 0 0):=(blk_cell BK111.out 1).trans rfl;have hcz77_2 : w68.cell? ⟨gb111,2,none⟩ = some (.slice none 0 0):=(blk_cell BK111.out 2).trans rfl;have hfz77_0:=blk_frozen BK111.out 0;have hfz77_1:=blk_frozen BK111.out 1;have hfz77_2:=blk_frozen BK111.out 2;have hnb78:=NB112_118.out;have hnc78:=NB118_112.out;have hnb79:=NB112_119.out;have hnc79:=NB119_112.out;have hcz80_0 : w68.cell? ⟨gb112,0,none⟩ = some (.int .i64 x113000_1):=(blk_cell BK112.out 0).trans rfl;have hcz80_1 : w68.cell? ⟨gb112,1,none⟩ = some (.int .i64 x113001_1):=(blk_cell BK112.out 1).trans rfl;have hfz80_0:=blk_frozen BK112.out 0;have hfz80_1:=blk_frozen BK112.out 1))
   refine bodyPost_ret (results_cc rfl _ _ gb111 gb112 34 40 #[.slice none 0 0,.slice none 0 0,.slice none 0 0] #[.int .i64 1,.int .i64 (wrap64 (x7_1 + 1))] (0,0) (0,0) _ _ rfl (by refine KU ?_;refine blk_far ?_ NB111_112.out _;refine KU ?_;refine blk_far ?_ NB111_112.out _;refine KU ?_;refine blk_put (cs:=#[.slice none 0 0,.slice none 0 0,.slice none 0 0]) ?_ 2 _ rfl;refine KU ?_;refine blk_put (cs:=#[.slice none 0 0,.slice none 0 0,.slice none 0 0]) ?_ 1 _ rfl;refine KU ?_;refine blk_put (cs:=#[.slice none 0 0,.slice none 0 0,.slice none 0 0]) ?_ 0 _ rfl;refine KU ?_;refine blk_far ?_ NB111_127.out _;refine KU ?_;refine blk_far ?_ NB111_127.out _;refine KU ?_;exact BK111.out) Tryz.underlying34 rfl (by kernel_rfl) rfl (by refine KU ?_;refine blk_put (cs:=#[.int .i64 1,.int .i64 x113001_1]) ?_ 1 _ rfl;refine KU ?_;refine blk_put (cs:=#[.int .i64 x113000_1,.int .i64 x113001_1]) ?_ 0 _ rfl;refine KU ?_;refine blk_far ?_ NB112_111.out _;refine KU ?_;refine blk_far ?_ NB112_111.out _;refine KU ?_;refine blk_far ?_ NB112_111.out _;refine KU ?_;refine blk_far ?_ NB112_127.out _;refine KU ?_;refine blk_far ?_ NB112_127.out _;refine KU ?_;exact BK112.out) Tryz.underlying40 rfl (by kernel_rfl)) rfl ?_
   exact ⟨_,_,_,eR,by first|exact Kd.R_nil _ _ _ _ _|exact Kd.N_nil _ _ _ _ _|exact Kd.V_nil _ _ _ _ _|exact Kd.Q_nil _ _ _ _ _|exact Kd.S_nil _ _ _ _ _,by first|exact Kd.R_nil _ _ _ _ _|exact Kd.N_nil _ _ _ _ _|exact Kd.V_nil _ _ _ _ _|exact Kd.Q_nil _ _ _ _ _|exact Kd.S_nil _ _ _ _ _,by first|exact Kd.R_nil _ _ _ _ _|exact Kd.N_nil _ _ _ _ _|exact Kd.V_nil _ _ _ _ _|exact Kd.Q_nil _ _ _ _ _|exact Kd.S_nil _ _ _ _ _,bH⟩
 subst c15
 have H1 : (if t123.toList = ([99,108,97,115,115] : List UInt8) then (if x120000_1.length < 4398046511104 then (sr30_Parse.l0 k1 a0 t113 (wrap64 (x7_1 + 1)) (x120000_1 ++ [(⟨t124,t125⟩ : S23)]) x120001_1 x120002_1) else (none)) else (if t123.toList = ([102,105,101,108,100] : List UInt8) then (if x120001_1.length < 4398046511104 then (sr30_Parse.l0 k1 a0 t113 (wrap64 (x7_1 + 1)) x120000_1 (x120001_1 ++ [(⟨t124,t125⟩ : S23)]) x120002_1) else (none)) else (if x120002_1.length < 4398046511104 then (sr30_Parse.l0 k1 a0 t113 (wrap64 (x7_1 + 1)) x120000_1 x120001_1 (x120002_1 ++ [(⟨t124,t125⟩ : S23)])) else (none)))) = some (r1,r2,r3,r4,r5):=by rw [if_pos rfl] at H;exact H
 clear H
 have H:=H1
 clear H1
 by_cases c16 : t123.toList = ([99,108,97,115,115] : List UInt8)
 · rw [if_pos c16] at H
   have c16b0 : (t123.toList == ([99,108,97,115,115] : List UInt8)) = true:=beq_iff_eq.mpr c16
   have c16b1 : (t123.toList != ([99,108,97,115,115] : List UInt8)) = false:=bne_eq_false_iff_eq.mpr c16
   clear c16
   by_cases c17 : x120000_1.length < 4398046511104
   rotate_left
   · rw [if_neg c17] at H
     exact absurd H (by simp)
   rw [if_pos c17] at H
   have LMc17:=aq c17
   clear c17
   obtain ⟨y128,hy128⟩ : ∃ y_ : List (S23),y_ = (x120000_1 ++ [(⟨t124,t125⟩ : S23)]):=⟨_,rfl⟩
   replace H : (sr30_Parse.l0 k1 a0 t113 (wrap64 (x7_1 + 1)) y128 x120001_1 x120002_1) = some (r1,r2,r3,r4,r5):=by first|(rw [hy128];with_reducible exact H)|(have H2_:=(Option.bind_some _ _).symm.trans H;rw [hy128];with_reducible exact H2_)|(have H2_:=(Option.bind_some _ _).symm.trans H;with_reducible exact H2_)|with_reducible exact H|(rw [hy128];exact H)|exact H
   have Ny128:=aq hy128
   clear hy128
   have H':=aq H
   clear H
   obtain ⟨Ao18,co18,eo18⟩:=Kd.R_slice HO_4.out
   subst eo18
   have p122 : 0 ≤ (x7_1 : Int):=of_decide_eq_true aS
   have q122 : x7_1 < (t113.length : Int):=of_decide_eq_true aS
   obtain ⟨ad122,e122,hx122_0⟩:=Kd.at_string (Kd.R_reads' HO_4.out).2.2 x7_1 p122 q122
   cases e122
   replace p122:=eq_true p122
   replace q122:=eq_true q122
   go_wp2_with (first|((with_reducible refine gate_callee (f:=8) rfl ?_);refine goesL_ (some 34) rfl rfl Tryz.func8 (by kernel_rfl) rfl #[.string (rdOf ByteArray.empty t113 x7_1)] rfl eA ?_;(with_reducible refine (sr30_Read.calls (rdOf ByteArray.empty t113 x7_1) t123 t124 t125 true _ A14.out).mono ?_);rintro e w19 ⟨rfl,hb⟩;refine ⟨_,rfl,?_⟩;replace HO_4:=RN HO_4 hb;replace HO_120000:=RN HO_120000 hb;replace HO_120001:=RN HO_120001 hb;replace HO_120002:=RN HO_120002 hb;replace BK111:=KN BK111 hb;replace BK112:=KN BK112 hb;replace BK118:=KN BK118 hb;replace BK119:=KN BK119 hb;replace HB:=aq (below_step bH hb);(try clear hb);(try clear hb2);(try clear hk);(try clear hi))|((with_reducible refine gate_dst (N:=9) rfl ?_);refine box_event rfl (N:=9) rfl (cs:=#[.string (⟨#[]⟩ : ByteArray),.string (⟨#[]⟩ : ByteArray)]) (t:=23) gS ?_;intro gb127 hg w20 hbox hb;have BK127:=aq (hbox);have GE127:=aq ((GN hg : w.heap.size ≤ gb127));have NB111_127:=aq (NL hg BK111);have NB127_111:=aq (NG hg BK111);have NB112_127:=aq (NL hg BK112);have NB127_112:=aq (NG hg BK112);have NB118_127:=aq (NL hg BK118);have NB127_118:=aq (NG hg BK118);have NB119_127:=aq (NL hg BK119);have NB127_119:=aq (NG hg BK119);replace HO_4:=RN HO_4 hb;replace HO_120000:=aq (Kd.R_below (Kd.R_elderB (RU HO_120000.out) gb127 (Nat.le_of_eq hg.symm)) hb);replace HO_120001:=aq (Kd.R_below (Kd.R_elderB (RU HO_120001.out) gb127 (Nat.le_of_eq hg.symm)) hb);replace HO_120002:=aq (Kd.R_below (Kd.R_elderB (RU HO_120002.out) gb127 (Nat.le_of_eq hg.symm)) hb);replace BK111:=KN BK111 hb;replace BK112:=KN BK112 hb;replace BK118:=KN BK118 hb;replace BK119:=KN BK119 hb;replace HB:=aq (below_step bH hb);clear hb hbox hg;have hnb21:=NB127_111.out;have hnc21:=NB111_127.out;have hnb22:=NB127_112.out;have hnc22:=NB112_127.out;have hnb23:=NB127_118.out;have hnc23:=NB118_127.out;have hnb24:=NB127_119.out;have hnc24:=NB119_127.out;have hcz25_0 : w20.cell? ⟨gb127,0,none⟩ = some (.string (⟨#[]⟩ : ByteArray)):=(blk_cell BK127.out 0).trans rfl;have hcz25_1 : w20.cell? ⟨gb127,1,none⟩ = some (.string (⟨#[]⟩ : ByteArray)):=(blk_cell BK127.out 1).trans rfl;have hfz25_0:=blk_frozen BK127.out 0;have hfz25_1:=blk_frozen BK127.out 1;have hnb26:=NB119_111.out;have hnc26:=NB111_119.out;have hnb27:=NB119_112.out;have hnc27:=NB112_119.out;have hnb28:=NB119_118.out;have hnc28:=NB118_119.out;have hcz29_0 : w20.cell? ⟨gb119,0,none⟩ = some (u120000):=(blk_cell BK119.out 0).trans rfl;have hcz29_1 : w20.cell? ⟨gb119,1,none⟩ = some (u120001):=(blk_cell BK119.out 1).trans rfl;have hcz29_2 : w20.cell? ⟨gb119,2,none⟩ = some (u120002):=(blk_cell BK119.out 2).trans rfl;have hfz29_0:=blk_frozen BK119.out 0;have hfz29_1:=blk_frozen BK119.out 1;have hfz29_2:=blk_frozen BK119.out 2)|((with_reducible refine gate_builtin (b:=.append) (xs:=#[.tmp 54,.tmp 56]) rfl ?_);at_builtin;refine Kd.R_append k23 (w0:=w) w.heap.size rfl (.tmp 54) (.tmp 56) 32 23 (.agg #[(.string ⟨#[]⟩),(.string ⟨#[]⟩)]) 32 rfl Tryz.underlying32 info23 rfl (by decide) (by omega) u120000 x120000_1 (⟨t124,t125⟩ : S23) [.string t124,.string t125] (fun k_ => some k_ ≠ (u120001 : Value).ownBlock ∧ some k_ ≠ (u120002 : Value).ownBlock ∧ k_ ≠ gb127) (fun _ => False) rfl (by first|(go_simp;done)|(go_simp;rfl)) ?aP (fun _ hk => hk.elim) ?aF ?aO ?aB ?aS ?aL ?_;(case aP => exact k23_mkM _ _ _ (⟨t124,t125⟩ : S23));(case aB => exact bH);(case aF => exact (fun k_ hk => ⟨Kd.fresh' (Kd.R_lt (by (with_reducible repeat (first|apply Kd.R_alloc|apply Kd.R_drewN|apply Kd.R_drew));exact (Kd.R_mono (RF gb127 1 (RF gb127 0 (Kd.R_mono HO_120001.out (fun k_ hk => (⟨hk,hk.2⟩ : _ ∧ k_ ≠ gb127))) (.string t124)) (.string t125)) (fun _ h_ => h_.1)))) k_ hk,Kd.fresh' (Kd.R_lt (by (with_reducible repeat (first|apply Kd.R_alloc|apply Kd.R_drewN|apply Kd.R_drew));exact (Kd.R_mono (RF gb127 1 (RF gb127 0 (Kd.R_mono HO_120002.out (fun k_ hk => (⟨hk,hk.2⟩ : _ ∧ k_ ≠ gb127))) (.string t124)) (.string t125)) (fun _ h_ => h_.1)))) k_ hk,Kd.freshB (g:=gb127) (o:=.cells #[.string t124,.string t125] 23 (0,0)) (by refine KU ?_;refine blk_put (cs:=#[.string t124,.string (⟨#[]⟩ : ByteArray)]) ?_ 1 _ rfl;refine KU ?_;refine blk_put (cs:=#[.string (⟨#[]⟩ : ByteArray),.string (⟨#[]⟩ : ByteArray)]) ?_ 0 _ rfl;refine KU ?_;exact BK127.out) k_ hk⟩));(case aO => exact (by (with_reducible repeat (first|apply Kd.R_alloc|apply Kd.R_drewN|apply Kd.R_drew));exact Kd.R_mono (RF gb127 1 (RF gb127 0 (Kd.R_mono HO_120000.out (fun k_ hk => (⟨hk,hk.2⟩ : _ ∧ k_ ≠ gb127))) (.string t124)) (.string t125)) (fun _ hk => ⟨hk.1.1.1,⟨hk.1.1.2,hk.1.2⟩⟩)));(case aS => exact (below_size bH));(case aL => have:=LMc17.out;omega);intro v129 w30 ho hb hg hat;rw [← Ny128.out] at ho;have n0_:=aq (Kd.R_over' (by (with_reducible repeat (first|apply Kd.R_alloc|apply Kd.R_drewN|apply Kd.R_drew));exact (Kd.R_mono (RF gb127 1 (RF gb127 0 (Kd.R_types HO_4.out BK127.out (by decide)) (.string t124)) (.string t125)) (fun _ h_ => h_.1))) (Kd.R_typed (by (with_reducible repeat (first|apply Kd.R_alloc|apply Kd.R_drewN|apply Kd.R_drew));exact (Kd.R_mono (RF gb127 1 (RF gb127 0 (Kd.R_mono HO_120000.out (fun k_ hk => (⟨hk,hk.2⟩ : _ ∧ k_ ≠ gb127))) (.string t124)) (.string t125)) (fun _ h_ => h_.1)))) (by decide) hg);have n1_:=aq (Kd.R_after (ok:=(fun k_ => some k_ ≠ (u120002 : Value).ownBlock ∧ k_ ≠ gb127)) (by (with_reducible repeat (first|apply Kd.R_alloc|apply Kd.R_drewN|apply Kd.R_drew));exact Kd.R_mono (RF gb127 1 (RF gb127 0 (Kd.R_mono HO_120001.out (fun k_ hk => (⟨hk,hk.2⟩ : _ ∧ k_ ≠ gb127))) (.string t124)) (.string t125)) (fun _ hk => ⟨⟨hk.1.1.2,hk.1.2⟩,hk.1.1.1⟩)) hg hat);have n2_:=aq (Kd.R_after (ok:=(fun k_ => some k_ ≠ (u120001 : Value).ownBlock ∧ k_ ≠ gb127)) (by (with_reducible repeat (first|apply Kd.R_alloc|apply Kd.R_drewN|apply Kd.R_drew));exact Kd.R_mono (RF gb127 1 (RF gb127 0 (Kd.R_mono HO_120002.out (fun k_ hk => (⟨hk,hk.2⟩ : _ ∧ k_ ≠ gb127))) (.string t124)) (.string t125)) (fun _ hk => ⟨⟨hk.1.1.2,hk.1.2⟩,hk.1.1.1⟩)) hg hat);have n3_:=aq (blk_grown (g:=gb111) (o:=.cells #[.slice none 0 0,.slice none 0 0,.slice none 0 0] 34 (0,0)) (by refine KU ?_;refine blk_far ?_ NB111_127.out _;refine KU ?_;refine blk_far ?_ NB111_127.out _;refine KU ?_;exact BK111.out) hg (Kd.R_ne HO_120000.out BK111.out (by decide)));have n4_:=aq (blk_grown (g:=gb112) (o:=.cells #[.int .i64 x113000_1,.int .i64 x113001_1] 40 (0,0)) (by refine KU ?_;refine blk_far ?_ NB112_127.out _;refine KU ?_;refine blk_far ?_ NB112_127.out _;refine KU ?_;exact BK112.out) hg (Kd.R_ne HO_120000.out BK112.out (by decide)));have n5_:=aq (blk_grown (g:=gb118) (o:=.cells #[.int .i64 t116,.int .i64 t117] 40 (0,0)) (by refine KU ?_;refine blk_far ?_ NB118_127.out _;refine KU ?_;refine blk_far ?_ NB118_127.out _;refine KU ?_;exact BK118.out) hg (Kd.R_ne HO_120000.out BK118.out (by decide)));have n6_:=aq (blk_grown (g:=gb119) (o:=.cells #[u120000,u120001,u120002] 34 (0,0)) (by refine KU ?_;refine blk_far ?_ NB119_127.out _;refine KU ?_;refine blk_far ?_ NB119_127.out _;refine KU ?_;exact BK119.out) hg (Kd.R_ne HO_120000.out BK119.out (by decide)));have n7_:=aq (blk_grown (g:=gb127) (o:=.cells #[.string t124,.string t125] 23 (0,0)) (by refine KU ?_;refine blk_put (cs:=#[.string t124,.string (⟨#[]⟩ : ByteArray)]) ?_ 1 _ rfl;refine KU ?_;refine blk_put (cs:=#[.string (⟨#[]⟩ : ByteArray),.string (⟨#[]⟩ : ByteArray)]) ?_ 0 _ rfl;refine KU ?_;exact BK127.out) hg (Kd.R_away HO_120000.out (fun _ hk => hk.2)));have n8_:=aq (hb);have n9_:=aq (ho);clear HO_4;clear HO_120001;clear HO_120002;clear BK111;clear BK112;clear BK118;clear BK119;clear BK127;clear HB;clear HO_120000;have HO_4:=n0_;have HO_120001:=n1_;have HO_120002:=n2_;have BK111:=n3_;have BK112:=n4_;have BK118:=n5_;have BK119:=n6_;have BK127:=n7_;have HB:=n8_;have HO130:=n9_;clear n0_ n1_ n2_ n3_ n4_ n5_ n6_ n7_ n8_ n9_;clear ho hb hg hat;obtain ⟨Ao31,co31,eo31⟩:=Kd.R_slice HO130.out;subst eo31;have hcz32_0 : w30.cell? ⟨gb119,0,none⟩ = some (u120000):=(blk_cell BK119.out 0).trans rfl;have hcz32_1 : w30.cell? ⟨gb119,1,none⟩ = some (u120001):=(blk_cell BK119.out 1).trans rfl;have hcz32_2 : w30.cell? ⟨gb119,2,none⟩ = some (u120002):=(blk_cell BK119.out 2).trans rfl;have hfz32_0:=blk_frozen BK119.out 0;have hfz32_1:=blk_frozen BK119.out 1;have hfz32_2:=blk_frozen BK119.out 2))
   go_roundg k1
   case measure => have:=HK1.out;omega
   case rel => exact ⟨(wrap64 (x7_1 + 1)),(x113000_1),(x113001_1),(y128),(x120001_1),(x120002_1),(.slice Ao31 y128.length co31),(u120001),(u120002),eS,H',⟨by have:=HK1.out;omega⟩,⟨by (with_reducible repeat (first|apply Kd.R_alloc|apply Kd.R_drewN|apply Kd.R_drew));exact Kd.R_mono (RF gb119 0 (Kd.R_types HO_4.out BK119.out (by decide)) (.slice Ao31 y128.length co31)) (fun _ hk => trivial)⟩,⟨by (with_reducible repeat (first|apply Kd.R_alloc|apply Kd.R_drewN|apply Kd.R_drew));exact Kd.R_mono (RF gb119 0 (Kd.R_types HO130.out BK119.out (by decide)) (.slice Ao31 y128.length co31)) (fun _ hk => ⟨hk.1.1,hk.1.2.1⟩)⟩,⟨by (with_reducible repeat (first|apply Kd.R_alloc|apply Kd.R_drewN|apply Kd.R_drew));exact Kd.R_mono (RF gb119 0 (Kd.R_types HO_120001.out BK119.out (by decide)) (.slice Ao31 y128.length co31)) (fun _ hk => ⟨hk.1.2,hk.1.1.1⟩)⟩,⟨by (with_reducible repeat (first|apply Kd.R_alloc|apply Kd.R_drewN|apply Kd.R_drew));exact Kd.R_mono (RF gb119 0 (Kd.R_types HO_120002.out BK119.out (by decide)) (.slice Ao31 y128.length co31)) (fun _ hk => ⟨hk.1.2,hk.1.1.1⟩)⟩,⟨by refine KU ?_;refine blk_far ?_ NB111_119.out _;refine KU ?_;exact BK111.out⟩,⟨by refine KU ?_;refine blk_far ?_ NB112_119.out _;refine KU ?_;exact BK112.out⟩,⟨by refine KU ?_;refine blk_far ?_ NB118_119.out _;refine KU ?_;exact BK118.out⟩,⟨by refine KU ?_;refine blk_put (cs:=#[u120000,u120001,u120002]) ?_ 0 _ rfl;refine KU ?_;exact BK119.out⟩,⟨bH⟩⟩
 rw [if_neg c16] at H
 have c16b0 : (t123.toList == ([99,108,97,115,115] : List UInt8)) = false:=beq_eq_false_iff_ne.mpr c16
 have c16b1 : (t123.toList != ([99,108,97,115,115] : List UInt8)) = true:=bne_iff_ne.mpr c16
 by_cases c33 : t123.toList = ([102,105,101,108,100] : List UInt8)
 rotate_left
 · rw [if_neg c33] at H
   have c33b0 : (t123.toList == ([102,105,101,108,100] : List UInt8)) = false:=beq_eq_false_iff_ne.mpr c33
   have c33b1 : (t123.toList != ([102,105,101,108,100] : List UInt8)) = true:=bne_iff_ne.mpr c33
   by_cases c50 : x120002_1.length < 4398046511104
   rotate_left
   · rw [if_neg c50] at H
     exact absurd H (by simp)
   rw [if_pos c50] at H
   have LMc50:=aq c50
   clear c50
   obtain ⟨y134,hy134⟩ : ∃ y_ : List (S23),y_ = (x120002_1 ++ [(⟨t124,t125⟩ : S23)]):=⟨_,rfl⟩
   replace H : (sr30_Parse.l0 k1 a0 t113 (wrap64 (x7_1 + 1)) x120000_1 x120001_1 y134) = some (r1,r2,r3,r4,r5):=by first|(rw [hy134];with_reducible exact H)|(have H2_:=(Option.bind_some _ _).symm.trans H;rw [hy134];with_reducible exact H2_)|(have H2_:=(Option.bind_some _ _).symm.trans H;with_reducible exact H2_)|with_reducible exact H|(rw [hy134];exact H)|exact H
   have Ny134:=aq hy134
   clear hy134
   have H':=aq H
   clear H
   obtain ⟨Ao51,co51,eo51⟩:=Kd.R_slice HO_4.out
   subst eo51
   have p122 : 0 ≤ (x7_1 : Int):=of_decide_eq_true aS
   have q122 : x7_1 < (t113.length : Int):=of_decide_eq_true aS
   obtain ⟨ad122,e122,hx122_0⟩:=Kd.at_string (Kd.R_reads' HO_4.out).2.2 x7_1 p122 q122
   cases e122
   replace p122:=eq_true p122
   replace q122:=eq_true q122
   go_wp2_with (first|((with_reducible refine gate_callee (f:=8) rfl ?_);refine goesL_ (some 34) rfl rfl Tryz.func8 (by kernel_rfl) rfl #[.string (rdOf ByteArray.empty t113 x7_1)] rfl eA ?_;(with_reducible refine (sr30_Read.calls (rdOf ByteArray.empty t113 x7_1) t123 t124 t125 true _ A14.out).mono ?_);rintro e w52 ⟨rfl,hb⟩;refine ⟨_,rfl,?_⟩;replace HO_4:=RN HO_4 hb;replace HO_120000:=RN HO_120000 hb;replace HO_120001:=RN HO_120001 hb;replace HO_120002:=RN HO_120002 hb;replace BK111:=KN BK111 hb;replace BK112:=KN BK112 hb;replace BK118:=KN BK118 hb;replace BK119:=KN BK119 hb;replace HB:=aq (below_step bH hb);(try clear hb);(try clear hb2);(try clear hk);(try clear hi))|((with_reducible refine gate_dst (N:=9) rfl ?_);refine box_event rfl (N:=9) rfl (cs:=#[.string (⟨#[]⟩ : ByteArray),.string (⟨#[]⟩ : ByteArray)]) (t:=23) gS ?_;intro gb127 hg w53 hbox hb;have BK127:=aq (hbox);have GE127:=aq ((GN hg : w.heap.size ≤ gb127));have NB111_127:=aq (NL hg BK111);have NB127_111:=aq (NG hg BK111);have NB112_127:=aq (NL hg BK112);have NB127_112:=aq (NG hg BK112);have NB118_127:=aq (NL hg BK118);have NB127_118:=aq (NG hg BK118);have NB119_127:=aq (NL hg BK119);have NB127_119:=aq (NG hg BK119);replace HO_4:=RN HO_4 hb;replace HO_120000:=aq (Kd.R_below (Kd.R_elderB (RU HO_120000.out) gb127 (Nat.le_of_eq hg.symm)) hb);replace HO_120001:=aq (Kd.R_below (Kd.R_elderB (RU HO_120001.out) gb127 (Nat.le_of_eq hg.symm)) hb);replace HO_120002:=aq (Kd.R_below (Kd.R_elderB (RU HO_120002.out) gb127 (Nat.le_of_eq hg.symm)) hb);replace BK111:=KN BK111 hb;replace BK112:=KN BK112 hb;replace BK118:=KN BK118 hb;replace BK119:=KN BK119 hb;replace HB:=aq (below_step bH hb);clear hb hbox hg;have hnb54:=NB127_111.out;have hnc54:=NB111_127.out;have hnb55:=NB127_112.out;have hnc55:=NB112_127.out;have hnb56:=NB127_118.out;have hnc56:=NB118_127.out;have hnb57:=NB127_119.out;have hnc57:=NB119_127.out;have hcz58_0 : w53.cell? ⟨gb127,0,none⟩ = some (.string (⟨#[]⟩ : ByteArray)):=(blk_cell BK127.out 0).trans rfl;have hcz58_1 : w53.cell? ⟨gb127,1,none⟩ = some (.string (⟨#[]⟩ : ByteArray)):=(blk_cell BK127.out 1).trans rfl;have hfz58_0:=blk_frozen BK127.out 0;have hfz58_1:=blk_frozen BK127.out 1;have hnb59:=NB119_111.out;have hnc59:=NB111_119.out;have hnb60:=NB119_112.out;have hnc60:=NB112_119.out;have hnb61:=NB119_118.out;have hnc61:=NB118_119.out;have hcz62_0 : w53.cell? ⟨gb119,0,none⟩ = some (u120000):=(blk_cell BK119.out 0).trans rfl;have hcz62_1 : w53.cell? ⟨gb119,1,none⟩ = some (u120001):=(blk_cell BK119.out 1).trans rfl;have hcz62_2 : w53.cell? ⟨gb119,2,none⟩ = some (u120002):=(blk_cell BK119.out 2).trans rfl;have hfz62_0:=blk_frozen BK119.out 0;have hfz62_1:=blk_frozen BK119.out 1;have hfz62_2:=blk_frozen BK119.out 2)|((with_reducible refine gate_builtin (b:=.append) (xs:=#[.tmp 46,.tmp 48]) rfl ?_);at_builtin;refine Kd.R_append k23 (w0:=w) w.heap.size rfl (.tmp 46) (.tmp 48) 32 23 (.agg #[(.string ⟨#[]⟩),(.string ⟨#[]⟩)]) 32 rfl Tryz.underlying32 info23 rfl (by decide) (by omega) u120002 x120002_1 (⟨t124,t125⟩ : S23) [.string t124,.string t125] (fun k_ => some k_ ≠ (u120000 : Value).ownBlock ∧ some k_ ≠ (u120001 : Value).ownBlock ∧ k_ ≠ gb127) (fun _ => False) rfl (by first|(go_simp;done)|(go_simp;rfl)) ?aP (fun _ hk => hk.elim) ?aF ?aO ?aB ?aS ?aL ?_;(case aP => exact k23_mkM _ _ _ (⟨t124,t125⟩ : S23));(case aB => exact bH);(case aF => exact (fun k_ hk => ⟨Kd.fresh' (Kd.R_lt (by (with_reducible repeat (first|apply Kd.R_alloc|apply Kd.R_drewN|apply Kd.R_drew));exact (Kd.R_mono (RF gb127 1 (RF gb127 0 (Kd.R_mono HO_120000.out (fun k_ hk => (⟨hk,hk.2⟩ : _ ∧ k_ ≠ gb127))) (.string t124)) (.string t125)) (fun _ h_ => h_.1)))) k_ hk,Kd.fresh' (Kd.R_lt (by (with_reducible repeat (first|apply Kd.R_alloc|apply Kd.R_drewN|apply Kd.R_drew));exact (Kd.R_mono (RF gb127 1 (RF gb127 0 (Kd.R_mono HO_120001.out (fun k_ hk => (⟨hk,hk.2⟩ : _ ∧ k_ ≠ gb127))) (.string t124)) (.string t125)) (fun _ h_ => h_.1)))) k_ hk,Kd.freshB (g:=gb127) (o:=.cells #[.string t124,.string t125] 23 (0,0)) (by refine KU ?_;refine blk_put (cs:=#[.string t124,.string (⟨#[]⟩ : ByteArray)]) ?_ 1 _ rfl;refine KU ?_;refine blk_put (cs:=#[.string (⟨#[]⟩ : ByteArray),.string (⟨#[]⟩ : ByteArray)]) ?_ 0 _ rfl;refine KU ?_;exact BK127.out) k_ hk⟩));(case aO => exact (by (with_reducible repeat (first|apply Kd.R_alloc|apply Kd.R_drewN|apply Kd.R_drew));exact Kd.R_mono (RF gb127 1 (RF gb127 0 (Kd.R_mono HO_120002.out (fun k_ hk => (⟨hk,hk.2⟩ : _ ∧ k_ ≠ gb127))) (.string t124)) (.string t125)) (fun _ hk => ⟨hk.1.1.1,⟨hk.1.1.2,hk.1.2⟩⟩)));(case aS => exact (below_size bH));(case aL => have:=LMc50.out;omega);intro v135 w63 ho hb hg hat;rw [← Ny134.out] at ho;have n0_:=aq (Kd.R_over' (by (with_reducible repeat (first|apply Kd.R_alloc|apply Kd.R_drewN|apply Kd.R_drew));exact (Kd.R_mono (RF gb127 1 (RF gb127 0 (Kd.R_types HO_4.out BK127.out (by decide)) (.string t124)) (.string t125)) (fun _ h_ => h_.1))) (Kd.R_typed (by (with_reducible repeat (first|apply Kd.R_alloc|apply Kd.R_drewN|apply Kd.R_drew));exact (Kd.R_mono (RF gb127 1 (RF gb127 0 (Kd.R_mono HO_120002.out (fun k_ hk => (⟨hk,hk.2⟩ : _ ∧ k_ ≠ gb127))) (.string t124)) (.string t125)) (fun _ h_ => h_.1)))) (by decide) hg);have n1_:=aq (Kd.R_after (ok:=(fun k_ => some k_ ≠ (u120001 : Value).ownBlock ∧ k_ ≠ gb127)) (by (with_reducible repeat (first|apply Kd.R_alloc|apply Kd.R_drewN|apply Kd.R_drew));exact Kd.R_mono (RF gb127 1 (RF gb127 0 (Kd.R_mono HO_120000.out (fun k_ hk => (⟨hk,hk.2⟩ : _ ∧ k_ ≠ gb127))) (.string t124)) (.string t125)) (fun _ hk => ⟨⟨hk.1.1.1,hk.1.2⟩,hk.1.1.2⟩)) hg hat);have n2_:=aq (Kd.R_after (ok:=(fun k_ => some k_ ≠ (u120000 : Value).ownBlock ∧ k_ ≠ gb127)) (by (with_reducible repeat (first|apply Kd.R_alloc|apply Kd.R_drewN|apply Kd.R_drew));exact Kd.R_mono (RF gb127 1 (RF gb127 0 (Kd.R_mono HO_120001.out (fun k_ hk => (⟨hk,hk.2⟩ : _ ∧ k_ ≠ gb127))) (.string t124)) (.string t125)) (fun _ hk => ⟨⟨hk.1.1.1,hk.1.2⟩,hk.1.1.2⟩)) hg hat);have n3_:=aq (blk_grown (g:=gb111) (o:=.cells #[.slice none 0 0,.slice none 0 0,.slice none 0 0] 34 (0,0)) (by refine KU ?_;refine blk_far ?_ NB111_127.out _;refine KU ?_;refine blk_far ?_ NB111_127.out _;refine KU ?_;exact BK111.out) hg (Kd.R_ne HO_120002.out BK111.out (by decide)));have n4_:=aq (blk_grown (g:=gb112) (o:=.cells #[.int .i64 x113000_1,.int .i64 x113001_1] 40 (0,0)) (by refine KU ?_;refine blk_far ?_ NB112_127.out _;refine KU ?_;refine blk_far ?_ NB112_127.out _;refine KU ?_;exact BK112.out) hg (Kd.R_ne HO_120002.out BK112.out (by decide)));have n5_:=aq (blk_grown (g:=gb118) (o:=.cells #[.int .i64 t116,.int .i64 t117] 40 (0,0)) (by refine KU ?_;refine blk_far ?_ NB118_127.out _;refine KU ?_;refine blk_far ?_ NB118_127.out _;refine KU ?_;exact BK118.out) hg (Kd.R_ne HO_120002.out BK118.out (by decide)));have n6_:=aq (blk_grown (g:=gb119) (o:=.cells #[u120000,u120001,u120002] 34 (0,0)) (by refine KU ?_;refine blk_far ?_ NB119_127.out _;refine KU ?_;refine blk_far ?_ NB119_127.out _;refine KU ?_;exact BK119.out) hg (Kd.R_ne HO_120002.out BK119.out (by decide)));have n7_:=aq (blk_grown (g:=gb127) (o:=.cells #[.string t124,.string t125] 23 (0,0)) (by refine KU ?_;refine blk_put (cs:=#[.string t124,.string (⟨#[]⟩ : ByteArray)]) ?_ 1 _ rfl;refine KU ?_;refine blk_put (cs:=#[.string (⟨#[]⟩ : ByteArray),.string (⟨#[]⟩ : ByteArray)]) ?_ 0 _ rfl;refine KU ?_;exact BK127.out) hg (Kd.R_away HO_120002.out (fun _ hk => hk.2)));have n8_:=aq (hb);have n9_:=aq (ho);clear HO_4;clear HO_120000;clear HO_120001;clear BK111;clear BK112;clear BK118;clear BK119;clear BK127;clear HB;clear HO_120002;have HO_4:=n0_;have HO_120000:=n1_;have HO_120001:=n2_;have BK111:=n3_;have BK112:=n4_;have BK118:=n5_;have BK119:=n6_;have BK127:=n7_;have HB:=n8_;have HO136:=n9_;clear n0_ n1_ n2_ n3_ n4_ n5_ n6_ n7_ n8_ n9_;clear ho hb hg hat;obtain ⟨Ao64,co64,eo64⟩:=Kd.R_slice HO136.out;subst eo64;have hcz65_0 : w63.cell? ⟨gb119,0,none⟩ = some (u120000):=(blk_cell BK119.out 0).trans rfl;have hcz65_1 : w63.cell? ⟨gb119,1,none⟩ = some (u120001):=(blk_cell BK119.out 1).trans rfl;have hcz65_2 : w63.cell? ⟨gb119,2,none⟩ = some (u120002):=(blk_cell BK119.out 2).trans rfl;have hfz65_0:=blk_frozen BK119.out 0;have hfz65_1:=blk_frozen BK119.out 1;have hfz65_2:=blk_frozen BK119.out 2))
   go_roundg k1
   case measure => have:=HK1.out;omega
   case rel => exact ⟨(wrap64 (x7_1 + 1)),(x113000_1),(x113001_1),(x120000_1),(x120001_1),(y134),(u120000),(u120001),(.slice Ao64 y134.length co64),eS,H',⟨by have:=HK1.out;omega⟩,⟨by (with_reducible repeat (first|apply Kd.R_alloc|apply Kd.R_drewN|apply Kd.R_drew));exact Kd.R_mono (RF gb119 2 (Kd.R_types HO_4.out BK119.out (by decide)) (.slice Ao64 y134.length co64)) (fun _ hk => trivial)⟩,⟨by (with_reducible repeat (first|apply Kd.R_alloc|apply Kd.R_drewN|apply Kd.R_drew));exact Kd.R_mono (RF gb119 2 (Kd.R_types HO_120000.out BK119.out (by decide)) (.slice Ao64 y134.length co64)) (fun _ hk => ⟨hk.1.1.1,hk.1.2⟩)⟩,⟨by (with_reducible repeat (first|apply Kd.R_alloc|apply Kd.R_drewN|apply Kd.R_drew));exact Kd.R_mono (RF gb119 2 (Kd.R_types HO_120001.out BK119.out (by decide)) (.slice Ao64 y134.length co64)) (fun _ hk => ⟨hk.1.1.1,hk.1.2⟩)⟩,⟨by (with_reducible repeat (first|apply Kd.R_alloc|apply Kd.R_drewN|apply Kd.R_drew));exact Kd.R_mono (RF gb119 2 (Kd.R_types HO136.out BK119.out (by decide)) (.slice Ao64 y134.length co64)) (fun _ hk => ⟨hk.1.1,hk.1.2.1⟩)⟩,⟨by refine KU ?_;refine blk_far ?_ NB111_119.out _;refine KU ?_;exact BK111.out⟩,⟨by refine KU ?_;refine blk_far ?_ NB112_119.out _;refine KU ?_;exact BK112.out⟩,⟨by refine KU ?_;refine blk_far ?_ NB118_119.out _;refine KU ?_;exact BK118.out⟩,⟨by refine KU ?_;refine blk_put (cs:=#[u120000,u120001,u120002]) ?_ 2 _ rfl;refine KU ?_;exact BK119.out⟩,⟨bH⟩⟩
 rw [if_pos c33] at H
 have c33b0 : (t123.toList == ([102,105,101,108,100] : List UInt8)) = true:=beq_iff_eq.mpr c33
 have c33b1 : (t123.toList != ([102,105,101,108,100] : List UInt8)) = false:=bne_eq_false_iff_eq.mpr c33
 clear c33
 by_cases c34 : x120001_1.length < 4398046511104
 rotate_left
 · rw [if_neg c34] at H
   exact absurd H (by simp)
 rw [if_pos c34] at H
 have LMc34:=aq c34
 clear c34
 obtain ⟨y131,hy131⟩ : ∃ y_ : List (S23),y_ = (x120001_1 ++ [(⟨t124,t125⟩ : S23)]):=⟨_,rfl⟩
 replace H : (sr30_Parse.l0 k1 a0 t113 (wrap64 (x7_1 + 1)) x120000_1 y131 x120002_1) = some (r1,r2,r3,r4,r5):=by first|(rw [hy131];with_reducible exact H)|(have H2_:=(Option.bind_some _ _).symm.trans H;rw [hy131];with_reducible exact H2_)|(have H2_:=(Option.bind_some _ _).symm.trans H;with_reducible exact H2_)|with_reducible exact H|(rw [hy131];exact H)|exact H
 have Ny131:=aq hy131
 clear hy131
 have H':=aq H
 clear H
 obtain ⟨Ao35,co35,eo35⟩:=Kd.R_slice HO_4.out
 subst eo35
 have p122 : 0 ≤ (x7_1 : Int):=of_decide_eq_true aS
 have q122 : x7_1 < (t113.length : Int):=of_decide_eq_true aS
 obtain ⟨ad122,e122,hx122_0⟩:=Kd.at_string (Kd.R_reads' HO_4.out).2.2 x7_1 p122 q122
 cases e122
 replace p122:=eq_true p122
 replace q122:=eq_true q122
 go_wp2_with (first|((with_reducible refine gate_callee (f:=8) rfl ?_);refine goesL_ (some 34) rfl rfl Tryz.func8 (by kernel_rfl) rfl #[.string (rdOf ByteArray.empty t113 x7_1)] rfl eA ?_;(with_reducible refine (sr30_Read.calls (rdOf ByteArray.empty t113 x7_1) t123 t124 t125 true _ A14.out).mono ?_);rintro e w36 ⟨rfl,hb⟩;refine ⟨_,rfl,?_⟩;replace HO_4:=RN HO_4 hb;replace HO_120000:=RN HO_120000 hb;replace HO_120001:=RN HO_120001 hb;replace HO_120002:=RN HO_120002 hb;replace BK111:=KN BK111 hb;replace BK112:=KN BK112 hb;replace BK118:=KN BK118 hb;replace BK119:=KN BK119 hb;replace HB:=aq (below_step bH hb);(try clear hb);(try clear hb2);(try clear hk);(try clear hi))|((with_reducible refine gate_dst (N:=9) rfl ?_);refine box_event rfl (N:=9) rfl (cs:=#[.string (⟨#[]⟩ : ByteArray),.string (⟨#[]⟩ : ByteArray)]) (t:=23) gS ?_;intro gb127 hg w37 hbox hb;have BK127:=aq (hbox);have GE127:=aq ((GN hg : w.heap.size ≤ gb127));have NB111_127:=aq (NL hg BK111);have NB127_111:=aq (NG hg BK111);have NB112_127:=aq (NL hg BK112);have NB127_112:=aq (NG hg BK112);have NB118_127:=aq (NL hg BK118);have NB127_118:=aq (NG hg BK118);have NB119_127:=aq (NL hg BK119);have NB127_119:=aq (NG hg BK119);replace HO_4:=RN HO_4 hb;replace HO_120000:=aq (Kd.R_below (Kd.R_elderB (RU HO_120000.out) gb127 (Nat.le_of_eq hg.symm)) hb);replace HO_120001:=aq (Kd.R_below (Kd.R_elderB (RU HO_120001.out) gb127 (Nat.le_of_eq hg.symm)) hb);replace HO_120002:=aq (Kd.R_below (Kd.R_elderB (RU HO_120002.out) gb127 (Nat.le_of_eq hg.symm)) hb);replace BK111:=KN BK111 hb;replace BK112:=KN BK112 hb;replace BK118:=KN BK118 hb;replace BK119:=KN BK119 hb;replace HB:=aq (below_step bH hb);clear hb hbox hg;have hnb38:=NB127_111.out;have hnc38:=NB111_127.out;have hnb39:=NB127_112.out;have hnc39:=NB112_127.out;have hnb40:=NB127_118.out;have hnc40:=NB118_127.out;have hnb41:=NB127_119.out;have hnc41:=NB119_127.out;have hcz42_0 : w37.cell? ⟨gb127,0,none⟩ = some (.string (⟨#[]⟩ : ByteArray)):=(blk_cell BK127.out 0).trans rfl;have hcz42_1 : w37.cell? ⟨gb127,1,none⟩ = some (.string (⟨#[]⟩ : ByteArray)):=(blk_cell BK127.out 1).trans rfl;have hfz42_0:=blk_frozen BK127.out 0;have hfz42_1:=blk_frozen BK127.out 1;have hnb43:=NB119_111.out;have hnc43:=NB111_119.out;have hnb44:=NB119_112.out;have hnc44:=NB112_119.out;have hnb45:=NB119_118.out;have hnc45:=NB118_119.out;have hcz46_0 : w37.cell? ⟨gb119,0,none⟩ = some (u120000):=(blk_cell BK119.out 0).trans rfl;have hcz46_1 : w37.cell? ⟨gb119,1,none⟩ = some (u120001):=(blk_cell BK119.out 1).trans rfl;have hcz46_2 : w37.cell? ⟨gb119,2,none⟩ = some (u120002):=(blk_cell BK119.out 2).trans rfl;have hfz46_0:=blk_frozen BK119.out 0;have hfz46_1:=blk_frozen BK119.out 1;have hfz46_2:=blk_frozen BK119.out 2)|((with_reducible refine gate_builtin (b:=.append) (xs:=#[.tmp 62,.tmp 64]) rfl ?_);at_builtin;refine Kd.R_append k23 (w0:=w) w.heap.size rfl (.tmp 62) (.tmp 64) 32 23 (.agg #[(.string ⟨#[]⟩),(.string ⟨#[]⟩)]) 32 rfl Tryz.underlying32 info23 rfl (by decide) (by omega) u120001 x120001_1 (⟨t124,t125⟩ : S23) [.string t124,.string t125] (fun k_ => some k_ ≠ (u120000 : Value).ownBlock ∧ some k_ ≠ (u120002 : Value).ownBlock ∧ k_ ≠ gb127) (fun _ => False) rfl (by first|(go_simp;done)|(go_simp;rfl)) ?aP (fun _ hk => hk.elim) ?aF ?aO ?aB ?aS ?aL ?_;(case aP => exact k23_mkM _ _ _ (⟨t124,t125⟩ : S23));(case aB => exact bH);(case aF => exact (fun k_ hk => ⟨Kd.fresh' (Kd.R_lt (by (with_reducible repeat (first|apply Kd.R_alloc|apply Kd.R_drewN|apply Kd.R_drew));exact (Kd.R_mono (RF gb127 1 (RF gb127 0 (Kd.R_mono HO_120000.out (fun k_ hk => (⟨hk,hk.2⟩ : _ ∧ k_ ≠ gb127))) (.string t124)) (.string t125)) (fun _ h_ => h_.1)))) k_ hk,Kd.fresh' (Kd.R_lt (by (with_reducible repeat (first|apply Kd.R_alloc|apply Kd.R_drewN|apply Kd.R_drew));exact (Kd.R_mono (RF gb127 1 (RF gb127 0 (Kd.R_mono HO_120002.out (fun k_ hk => (⟨hk,hk.2⟩ : _ ∧ k_ ≠ gb127))) (.string t124)) (.string t125)) (fun _ h_ => h_.1)))) k_ hk,Kd.freshB (g:=gb127) (o:=.cells #[.string t124,.string t125] 23 (0,0)) (by refine KU ?_;refine blk_put (cs:=#[.string t124,.string (⟨#[]⟩ : ByteArray)]) ?_ 1 _ rfl;refine KU ?_;refine blk_put (cs:=#[.string (⟨#[]⟩ : ByteArray),.string (⟨#[]⟩ : ByteArray)]) ?_ 0 _ rfl;refine KU ?_;exact BK127.out) k_ hk⟩));(case aO => exact (by (with_reducible repeat (first|apply Kd.R_alloc|apply Kd.R_drewN|apply Kd.R_drew));exact Kd.R_mono (RF gb127 1 (RF gb127 0 (Kd.R_mono HO_120001.out (fun k_ hk => (⟨hk,hk.2⟩ : _ ∧ k_ ≠ gb127))) (.string t124)) (.string t125)) (fun _ hk => ⟨hk.1.1.1,⟨hk.1.1.2,hk.1.2⟩⟩)));(case aS => exact (below_size bH));(case aL => have:=LMc34.out;omega);intro v132 w47 ho hb hg hat;rw [← Ny131.out] at ho;have n0_:=aq (Kd.R_over' (by (with_reducible repeat (first|apply Kd.R_alloc|apply Kd.R_drewN|apply Kd.R_drew));exact (Kd.R_mono (RF gb127 1 (RF gb127 0 (Kd.R_types HO_4.out BK127.out (by decide)) (.string t124)) (.string t125)) (fun _ h_ => h_.1))) (Kd.R_typed (by (with_reducible repeat (first|apply Kd.R_alloc|apply Kd.R_drewN|apply Kd.R_drew));exact (Kd.R_mono (RF gb127 1 (RF gb127 0 (Kd.R_mono HO_120001.out (fun k_ hk => (⟨hk,hk.2⟩ : _ ∧ k_ ≠ gb127))) (.string t124)) (.string t125)) (fun _ h_ => h_.1)))) (by decide) hg);have n1_:=aq (Kd.R_after (ok:=(fun k_ => some k_ ≠ (u120002 : Value).ownBlock ∧ k_ ≠ gb127)) (by (with_reducible repeat (first|apply Kd.R_alloc|apply Kd.R_drewN|apply Kd.R_drew));exact Kd.R_mono (RF gb127 1 (RF gb127 0 (Kd.R_mono HO_120000.out (fun k_ hk => (⟨hk,hk.2⟩ : _ ∧ k_ ≠ gb127))) (.string t124)) (.string t125)) (fun _ hk => ⟨⟨hk.1.1.2,hk.1.2⟩,hk.1.1.1⟩)) hg hat);have n2_:=aq (Kd.R_after (ok:=(fun k_ => some k_ ≠ (u120000 : Value).ownBlock ∧ k_ ≠ gb127)) (by (with_reducible repeat (first|apply Kd.R_alloc|apply Kd.R_drewN|apply Kd.R_drew));exact Kd.R_mono (RF gb127 1 (RF gb127 0 (Kd.R_mono HO_120002.out (fun k_ hk => (⟨hk,hk.2⟩ : _ ∧ k_ ≠ gb127))) (.string t124)) (.string t125)) (fun _ hk => ⟨⟨hk.1.1.1,hk.1.2⟩,hk.1.1.2⟩)) hg hat);have n3_:=aq (blk_grown (g:=gb111) (o:=.cells #[.slice none 0 0,.slice none 0 0,.slice none 0 0] 34 (0,0)) (by refine KU ?_;refine blk_far ?_ NB111_127.out _;refine KU ?_;refine blk_far ?_ NB111_127.out _;refine KU ?_;exact BK111.out) hg (Kd.R_ne HO_120001.out BK111.out (by decide)));have n4_:=aq (blk_grown (g:=gb112) (o:=.cells #[.int .i64 x113000_1,.int .i64 x113001_1] 40 (0,0)) (by refine KU ?_;refine blk_far ?_ NB112_127.out _;refine KU ?_;refine blk_far ?_ NB112_127.out _;refine KU ?_;exact BK112.out) hg (Kd.R_ne HO_120001.out BK112.out (by decide)));have n5_:=aq (blk_grown (g:=gb118) (o:=.cells #[.int .i64 t116,.int .i64 t117] 40 (0,0)) (by refine KU ?_;refine blk_far ?_ NB118_127.out _;refine KU ?_;refine blk_far ?_ NB118_127.out _;refine KU ?_;exact BK118.out) hg (Kd.R_ne HO_120001.out BK118.out (by decide)));have n6_:=aq (blk_grown (g:=gb119) (o:=.cells #[u120000,u120001,u120002] 34 (0,0)) (by refine KU ?_;refine blk_far ?_ NB119_127.out _;refine KU ?_;refine blk_far ?_ NB119_127.out _;refine KU ?_;exact BK119.out) hg (Kd.R_ne HO_120001.out BK119.out (by decide)));have n7_:=aq (blk_grown (g:=gb127) (o:=.cells #[.string t124,.string t125] 23 (0,0)) (by refine KU ?_;refine blk_put (cs:=#[.string t124,.string (⟨#[]⟩ : ByteArray)]) ?_ 1 _ rfl;refine KU ?_;refine blk_put (cs:=#[.string (⟨#[]⟩ : ByteArray),.string (⟨#[]⟩ : ByteArray)]) ?_ 0 _ rfl;refine KU ?_;exact BK127.out) hg (Kd.R_away HO_120001.out (fun _ hk => hk.2)));have n8_:=aq (hb);have n9_:=aq (ho);clear HO_4;clear HO_120000;clear HO_120002;clear BK111;clear BK112;clear BK118;clear BK119;clear BK127;clear HB;clear HO_120001;have HO_4:=n0_;have HO_120000:=n1_;have HO_120002:=n2_;have BK111:=n3_;have BK112:=n4_;have BK118:=n5_;have BK119:=n6_;have BK127:=n7_;have HB:=n8_;have HO133:=n9_;clear n0_ n1_ n2_ n3_ n4_ n5_ n6_ n7_ n8_ n9_;clear ho hb hg hat;obtain ⟨Ao48,co48,eo48⟩:=Kd.R_slice HO133.out;subst eo48;have hcz49_0 : w47.cell? ⟨gb119,0,none⟩ = some (u120000):=(blk_cell BK119.out 0).trans rfl;have hcz49_1 : w47.cell? ⟨gb119,1,none⟩ = some (u120001):=(blk_cell BK119.out 1).trans rfl;have hcz49_2 : w47.cell? ⟨gb119,2,none⟩ = some (u120002):=(blk_cell BK119.out 2).trans rfl;have hfz49_0:=blk_frozen BK119.out 0;have hfz49_1:=blk_frozen BK119.out 1;have hfz49_2:=blk_frozen BK119.out 2))
 go_roundg k1
 case measure => have:=HK1.out;omega
 case rel => exact ⟨(wrap64 (x7_1 + 1)),(x113000_1),(x113001_1),(x120000_1),(y131),(x120002_1),(u120000),(.slice Ao48 y131.length co48),(u120002),eS,H',⟨by have:=HK1.out;omega⟩,⟨by (with_reducible repeat (first|apply Kd.R_alloc|apply Kd.R_drewN|apply Kd.R_drew));exact Kd.R_mono (RF gb119 1 (Kd.R_types HO_4.out BK119.out (by decide)) (.slice Ao48 y131.length co48)) (fun _ hk => trivial)⟩,⟨by (with_reducible repeat (first|apply Kd.R_alloc|apply Kd.R_drewN|apply Kd.R_drew));exact Kd.R_mono (RF gb119 1 (Kd.R_types HO_120000.out BK119.out (by decide)) (.slice Ao48 y131.length co48)) (fun _ hk => ⟨hk.1.2,hk.1.1.1⟩)⟩,⟨by (with_reducible repeat (first|apply Kd.R_alloc|apply Kd.R_drewN|apply Kd.R_drew));exact Kd.R_mono (RF gb119 1 (Kd.R_types HO133.out BK119.out (by decide)) (.slice Ao48 y131.length co48)) (fun _ hk => ⟨hk.1.1,hk.1.2.1⟩)⟩,⟨by (with_reducible repeat (first|apply Kd.R_alloc|apply Kd.R_drewN|apply Kd.R_drew));exact Kd.R_mono (RF gb119 1 (Kd.R_types HO_120002.out BK119.out (by decide)) (.slice Ao48 y131.length co48)) (fun _ hk => ⟨hk.1.1.1,hk.1.2⟩)⟩,⟨by refine KU ?_;refine blk_far ?_ NB111_119.out _;refine KU ?_;exact BK111.out⟩,⟨by refine KU ?_;refine blk_far ?_ NB112_119.out _;refine KU ?_;exact BK112.out⟩,⟨by refine KU ?_;refine blk_far ?_ NB118_119.out _;refine KU ?_;exact BK118.out⟩,⟨by refine KU ?_;refine blk_put (cs:=#[u120000,u120001,u120002]) ?_ 1 _ rfl;refine KU ?_;exact BK119.out⟩,⟨bH⟩⟩
end Go.Proofs.YtaokkkolbifdpaaGreatDoor.Q35
end

section
namespace Go.Proofs.YtaokkkolbifdpaaGreatDoor.Hand
open Go.RowKit Go.Proofs.YtaokkkolbifdpaaGreatDoorW
open PrintWords PrintLast PrintMore
theorem sz_nl : (⟨#[10]⟩ : ByteArray).size = 1 := rfl
theorem bl_nl : bl (⟨#[10]⟩ : ByteArray) = [10] := rfl
theorem text_cons (x : List UInt8) (l : List (List UInt8)) : textL (x :: l) = x ++ ([10] ++ textL l) := by
 unfold textL
 rw [List.flatMap_cons,List.append_assoc]
theorem text_app (a b : List (List UInt8)) : textL (a ++ b) = textL a ++ textL b := by
 unfold textL
 rw [List.flatMap_append]
theorem line_size (w : List UInt8) (x : S23) (h : okS x) : (lineS w (pairT x)).length + 1 ≤ 4194304 := by
 have:=lineS_len w (pairT x)
 obtain ⟨q1,q2⟩:=h
 have e1 : (pairT x).1.length = x.f0.size:=bl_len _
 have e2 : (pairT x).2.length = x.f1.size:=bl_len _
 omega
theorem line_word (w : List UInt8) (wd : ByteArray) (hw : bl wd = w) (x : S23) (h : okS x) : sr30_Line.f wd x.f0 x.f1 = some (lb (lineS w (pairT x))) := by
 unfold sr30_Line.f legend_Line.f
 rw [if_pos (show x.f0.size ≤ 1048576 ∧ x.f1.size ≤ 1048576 from h),hw]
 rfl
theorem text_l2 (l0 l1 l2 : List S23) (h2 : okL l2) : ∀ (d k i : Nat) (s : ByteArray), i + d = l2.length → d + 0 < k → s.size + d * 4194304 ≤ 4611686018427387904 →
  Q35.sr30_text.l2 k s (i : Int) l0 l1 l2 = some (s ++ lb (textL ((l2.drop i).map fun x => lineS wMethod (pairT x)) ++ []))
 | 0,k,i,s,hi,hk,hs => by
  obtain ⟨k,rfl⟩ : ∃ j,k = j + 1:=⟨k - 1,by omega⟩
  have hd : l2.drop i = []:=List.drop_of_length_le (by omega)
  have hl2:=h2.1
  show Q35.sr30_text.l2 (k + 1) s (i : Int) l0 l1 l2 = _
  rw [Q35.sr30_text.l2,if_neg (by omega),hd,List.map_nil]
  refine congrArg some (bl_inj ?_)
  rw [bl_append,bl_lb]
  simp [textL]
 | d + 1,k,i,s,hi,hk,hs => by
  obtain ⟨k,rfl⟩ : ∃ j,k = j + 1:=⟨k - 1,by omega⟩
  have hlt : i < l2.length:=by omega
  have hl:=h2.1
  obtain ⟨x,hx⟩ : ∃ x,l2.getD i z23 = x:=⟨_,rfl⟩
  have hok : okS x:=by rw [← hx,getD_at l2 z23 i hlt];exact h2.2 _ (List.getElem_mem hlt)
  have hdr : l2.drop i = x :: l2.drop (i + 1):=by rw [List.drop_eq_getElem_cons hlt,← hx,getD_at l2 z23 i hlt]
  have hz:=line_size wMethod x hok
  have hsz : (s ++ (lb (lineS wMethod (pairT x)) ++ (⟨#[10]⟩ : ByteArray))).size ≤ s.size + 4194304:=by rw [ByteArray.size_append,ByteArray.size_append,lb_size,sz_nl];omega
  have ih:=text_l2 l0 l1 l2 h2 d k (i + 1) (s ++ (lb (lineS wMethod (pairT x)) ++ (⟨#[10]⟩ : ByteArray))) (by omega) (by omega) (by omega)
  show Q35.sr30_text.l2 (k + 1) s (i : Int) l0 l1 l2 = _
  rw [Q35.sr30_text.l2,if_pos (by omega),if_pos (by omega),rdT_nat,hx,line_word wMethod ⟨#[109,101,116,104,111,100]⟩ rfl x hok,Option.bind_some,if_pos (by rw [lb_size];omega),if_pos (by rw [ByteArray.size_append,lb_size,sz_nl];omega),wrap_succ i (by omega),ih,hdr,List.map_cons]
  refine congrArg some (bl_inj ?_)
  simp only [bl_append,bl_lb,bl_nl,text_cons,List.append_assoc]
theorem text_l1 (l0 l1 l2 : List S23) (h1 : okL l1) (h2 : okL l2) : ∀ (d k i : Nat) (s : ByteArray), i + d = l1.length → d + l2.length + 1 < k → s.size + (d + l2.length) * 4194304 ≤ 4611686018427387904 →
  Q35.sr30_text.l1 k s (i : Int) l0 l1 l2 = some (s ++ lb (textL ((l1.drop i).map fun x => lineS wField (pairT x)) ++ textL (l2.map fun x => lineS wMethod (pairT x))))
 | 0,k,i,s,hi,hk,hs => by
  obtain ⟨k,rfl⟩ : ∃ j,k = j + 1:=⟨k - 1,by omega⟩
  have hd : l1.drop i = []:=List.drop_of_length_le (by omega)
  have hl1:=h1.1
  have hn:=text_l2 l0 l1 l2 h2 l2.length k 0 s (by omega) (by omega) (by rw [Nat.zero_add] at hs;exact hs)
  rw [List.drop_zero] at hn
  show Q35.sr30_text.l1 (k + 1) s (i : Int) l0 l1 l2 = _
  rw [Q35.sr30_text.l1,if_neg (by omega),hd,List.map_nil]
  exact hn.trans (congrArg some (congrArg (fun z => s ++ lb z) (by simp [textL])))
 | d + 1,k,i,s,hi,hk,hs => by
  obtain ⟨k,rfl⟩ : ∃ j,k = j + 1:=⟨k - 1,by omega⟩
  have hlt : i < l1.length:=by omega
  have hl:=h1.1
  obtain ⟨x,hx⟩ : ∃ x,l1.getD i z23 = x:=⟨_,rfl⟩
  have hok : okS x:=by rw [← hx,getD_at l1 z23 i hlt];exact h1.2 _ (List.getElem_mem hlt)
  have hdr : l1.drop i = x :: l1.drop (i + 1):=by rw [List.drop_eq_getElem_cons hlt,← hx,getD_at l1 z23 i hlt]
  have hz:=line_size wField x hok
  have hsz : (s ++ (lb (lineS wField (pairT x)) ++ (⟨#[10]⟩ : ByteArray))).size ≤ s.size + 4194304:=by rw [ByteArray.size_append,ByteArray.size_append,lb_size,sz_nl];omega
  have ih:=text_l1 l0 l1 l2 h1 h2 d k (i + 1) (s ++ (lb (lineS wField (pairT x)) ++ (⟨#[10]⟩ : ByteArray))) (by omega) (by omega) (by omega)
  show Q35.sr30_text.l1 (k + 1) s (i : Int) l0 l1 l2 = _
  rw [Q35.sr30_text.l1,if_pos (by omega),if_pos (by omega),rdT_nat,hx,line_word wField ⟨#[102,105,101,108,100]⟩ rfl x hok,Option.bind_some,if_pos (by rw [lb_size];omega),if_pos (by rw [ByteArray.size_append,lb_size,sz_nl];omega),wrap_succ i (by omega),ih,hdr,List.map_cons]
  refine congrArg some (bl_inj ?_)
  simp only [bl_append,bl_lb,bl_nl,text_cons,List.append_assoc]
theorem text_l0 (l0 l1 l2 : List S23) (h0 : okL l0) (h1 : okL l1) (h2 : okL l2) : ∀ (d k i : Nat) (s : ByteArray), i + d = l0.length → d + l1.length + l2.length + 2 < k → s.size + (d + l1.length + l2.length) * 4194304 ≤ 4611686018427387904 →
  Q35.sr30_text.l0 k s (i : Int) l0 l1 l2 = some (s ++ lb (textL ((l0.drop i).map fun x => lineS wClass (pairT x)) ++ (textL (l1.map fun x => lineS wField (pairT x)) ++ textL (l2.map fun x => lineS wMethod (pairT x)))))
 | 0,k,i,s,hi,hk,hs => by
  obtain ⟨k,rfl⟩ : ∃ j,k = j + 1:=⟨k - 1,by omega⟩
  have hd : l0.drop i = []:=List.drop_of_length_le (by omega)
  have hl0:=h0.1
  have hn:=text_l1 l0 l1 l2 h1 h2 l1.length k 0 s (by omega) (by omega) (by rw [Nat.zero_add] at hs;exact hs)
  rw [List.drop_zero] at hn
  show Q35.sr30_text.l0 (k + 1) s (i : Int) l0 l1 l2 = _
  rw [Q35.sr30_text.l0,if_neg (by omega),hd,List.map_nil]
  exact hn.trans (congrArg some (congrArg (fun z => s ++ lb z) (by simp [textL])))
 | d + 1,k,i,s,hi,hk,hs => by
  obtain ⟨k,rfl⟩ : ∃ j,k = j + 1:=⟨k - 1,by omega⟩
  have hlt : i < l0.length:=by omega
  have hl:=h0.1
  obtain ⟨x,hx⟩ : ∃ x,l0.getD i z23 = x:=⟨_,rfl⟩
  have hok : okS x:=by rw [← hx,getD_at l0 z23 i hlt];exact h0.2 _ (List.getElem_mem hlt)
  have hdr : l0.drop i = x :: l0.drop (i + 1):=by rw [List.drop_eq_getElem_cons hlt,← hx,getD_at l0 z23 i hlt]
  have hz:=line_size wClass x hok
  have hsz : (s ++ (lb (lineS wClass (pairT x)) ++ (⟨#[10]⟩ : ByteArray))).size ≤ s.size + 4194304:=by rw [ByteArray.size_append,ByteArray.size_append,lb_size,sz_nl];omega
  have ih:=text_l0 l0 l1 l2 h0 h1 h2 d k (i + 1) (s ++ (lb (lineS wClass (pairT x)) ++ (⟨#[10]⟩ : ByteArray))) (by omega) (by omega) (by omega)
  show Q35.sr30_text.l0 (k + 1) s (i : Int) l0 l1 l2 = _
  rw [Q35.sr30_text.l0,if_pos (by omega),if_pos (by omega),rdT_nat,hx,line_word wClass ⟨#[99,108,97,115,115]⟩ rfl x hok,Option.bind_some,if_pos (by rw [lb_size];omega),if_pos (by rw [ByteArray.size_append,lb_size,sz_nl];omega),wrap_succ i (by omega),ih,hdr,List.map_cons]
  refine congrArg some (bl_inj ?_)
  simp only [bl_append,bl_lb,bl_nl,text_cons,List.append_assoc]
theorem refText_eq (l0 l1 l2 : List S23) (h0 : okL l0) (h1 : okL l1) (h2 : okL l2) (k : Nat) (hk : l0.length + (l1.length + l2.length + 2) < k) : Q35.sr30_text.f k l0 l1 l2 = some (lb (textL (linesAll l0 l1 l2))) := by
 have q0:=h0.1
 have q1:=h1.1
 have q2:=h2.1
 have e0 : (⟨#[]⟩ : ByteArray).size = 0:=rfl
 have h:=text_l0 l0 l1 l2 h0 h1 h2 l0.length k 0 ⟨#[]⟩ (by omega) (by omega) (by omega)
 unfold Q35.sr30_text.f
 refine h.trans (congrArg some (bl_inj ?_))
 unfold linesAll
 rw [bl_append,bl_lb,bl_lb,text_app,text_app,List.drop_zero,List.append_assoc]
 rfl
theorem refPrint_eq (l0 l1 l2 : List S23) (h0 : okL l0) (h1 : okL l1) (h2 : okL l2) (k : Nat) (hk : l0.length + (l1.length + l2.length + 2) < k) : Q35.sr30_Print.f k l0 l1 l2 = some (lb (printS l0 l1 l2).1, (printS l0 l1 l2).2) := by
 unfold Q35.sr30_Print.f sr29_Right.f printS
 rw [if_pos ⟨h0.1,h1.1,h2.1,shortQ_of h0.2,shortQ_of h1.2,shortQ_of h2.2⟩,Option.bind_some]
 by_cases hr : rightS l0 l1 l2 = true
 ·
  rw [if_pos hr,if_pos hr,refText_eq l0 l1 l2 h0 h1 h2 k hk,Option.bind_some,lb_size]
  by_cases hl : (textL (linesAll l0 l1 l2)).length > 65536
  ·
   rw [if_pos (by omega),if_pos hl]
   rfl
  ·
   rw [if_neg (by omega),if_neg hl]
 ·
  rw [if_neg hr,if_neg hr]
  rfl
def parsedOut (q : L3 × (Int × Int)) : List S23 × List S23 × List S23 × Int × Int := (q.1.1, q.1.2.1, q.1.2.2, q.2.1, q.2.2)
theorem parse_l0 (s : ByteArray) (ls : List (List UInt8)) (hn : ls.length ≤ 65536) (hl : ∀ x ∈ ls, x.length ≤ 65536) : ∀ (d k i : Nat) (m : L3), i + d = ls.length → okM m i → d + ls.length + 4 < k →
  Q35.sr30_Parse.l0 k s (ls.map lb) (i : Int) m.1 m.2.1 m.2.2 = some (parsedOut (if (readsF (ls.drop i) i m).2 ≠ 0 then (([],[],[]),(1,(readsF (ls.drop i) i m).2)) else
   if (printS (readsF (ls.drop i) i m).1.1 (readsF (ls.drop i) i m).1.2.1 (readsF (ls.drop i) i m).1.2.2).2 ≠ 0 ∨ (printS (readsF (ls.drop i) i m).1.1 (readsF (ls.drop i) i m).1.2.1 (readsF (ls.drop i) i m).1.2.2).1 ≠ bl s then (([],[],[]),(5,0)) else ((readsF (ls.drop i) i m).1,(0,0))))
 | 0,k,i,m,hi,hm,hk => by
  obtain ⟨k,rfl⟩ : ∃ j,k = j + 1:=⟨k - 1,by omega⟩
  have hd : ls.drop i = []:=List.drop_of_length_le (by omega)
  obtain ⟨m0,m1,m2,m3⟩:=hm
  have m0 : m.1.length + m.2.1.length + m.2.2.length ≤ i:=m0
  have hp:=refPrint_eq m.1 m.2.1 m.2.2 ⟨by omega,m1⟩ ⟨by omega,m2⟩ ⟨by omega,m3⟩ k (by omega)
  rw [hd,readsF]
  show Q35.sr30_Parse.l0 (k + 1) s (ls.map lb) (i : Int) m.1 m.2.1 m.2.2 = some (parsedOut (if (0 : Int) ≠ 0 then _ else if (printS m.1 m.2.1 m.2.2).2 ≠ 0 ∨ (printS m.1 m.2.1 m.2.2).1 ≠ bl s then (([],[],[]),(5,0)) else (m,(0,0))))
  rw [if_neg (fun h => h rfl),Q35.sr30_Parse.l0,if_neg (by rw [List.length_map];omega),hp,Option.bind_some]
  dsimp only
  by_cases e : (printS m.1 m.2.1 m.2.2).2 = 0
  ·
   rw [if_pos e]
   by_cases t : (printS m.1 m.2.1 m.2.2).1 = bl s
   ·
    rw [if_pos (by rw [toList_bl,toList_bl,bl_lb];exact t),if_neg (fun h => h.elim (fun h => h e) (fun h => h t))]
    rfl
   ·
    rw [if_neg (by rw [toList_bl,toList_bl,bl_lb];exact t),if_pos (.inr t)]
    rfl
  ·
   rw [if_neg e,if_pos (.inl e)]
   rfl
 | d + 1,k,i,m,hi,hm,hk => by
  obtain ⟨k,rfl⟩ : ∃ j,k = j + 1:=⟨k - 1,by omega⟩
  have hlt : i < ls.length:=by omega
  obtain ⟨x,hx⟩ : ∃ x,ls[i] = x:=⟨_,rfl⟩
  have hxl : x.length ≤ 65536:=by rw [← hx];exact hl _ (List.getElem_mem hlt)
  have hdr : ls.drop i = x :: ls.drop (i + 1):=by rw [List.drop_eq_getElem_cons hlt,hx]
  have hrd : rdOf ByteArray.empty (ls.map lb) (i : Int) = lb x:=by rw [rd_map ls i hlt,hx]
  have hm0 : m.1.length + m.2.1.length + m.2.2.length ≤ i:=hm.1
  rw [hdr,readsF]
  show Q35.sr30_Parse.l0 (k + 1) s (ls.map lb) (i : Int) m.1 m.2.1 m.2.2 = _
  rw [Q35.sr30_Parse.l0,if_pos (by rw [List.length_map];omega),if_pos (by omega),hrd]
  unfold sr30_Read.f
  rw [if_pos (by rw [lb_size];omega),Option.bind_some,bl_lb]
  unfold legOut
  dsimp only
  by_cases hr : (readS x).2.2 = true
  ·
   have hok:=okM_put hm hr (by omega)
   have ih:=parse_l0 s ls hn hl d k (i + 1) (putS m (readS x).1 (readS x).2.1) (by omega) hok (by omega)
   rw [if_pos hr,if_pos hr,← ih]
   have n1 : wField ≠ wClass:=by decide
   have n2 : wMethod ≠ wClass:=by decide
   have n3 : wMethod ≠ wField:=by decide
   rw [toList_bl,bl_lb,wrap_succ i (by omega)]
   rcases (readS_len x hr).2.2 with h|h|h
   ·
    rw [if_pos (show (readS x).1 = [99,108,97,115,115] from h),if_pos (by omega)]
    unfold putS
    rw [if_pos h]
    rfl
   ·
    rw [if_neg (show ¬ (readS x).1 = [99,108,97,115,115] from fun q => n1 (h.symm.trans q)),if_pos (show (readS x).1 = [102,105,101,108,100] from h),if_pos (by omega)]
    unfold putS
    rw [if_neg (fun q => n1 (h.symm.trans q)),if_pos h]
    rfl
   ·
    rw [if_neg (show ¬ (readS x).1 = [99,108,97,115,115] from fun q => n2 (h.symm.trans q)),if_neg (show ¬ (readS x).1 = [102,105,101,108,100] from fun q => n3 (h.symm.trans q)),if_pos (by omega)]
    unfold putS
    rw [if_neg (fun q => n2 (h.symm.trans q)),if_neg (fun q => n3 (h.symm.trans q)),if_pos h]
    rfl
  ·
   rw [if_neg hr,if_neg hr]
   have hne : ((i : Int) + 1) ≠ 0:=by omega
   dsimp only
   rw [if_pos hne,wrap_succ i (by omega)]
   rfl
theorem refParse_eq (s : ByteArray) (hs : s.size ≤ 1048576) : Q35.sr30_Parse.f 131100 s = some (parsedOut (parseS (bl s))) := by
 unfold Q35.sr30_Parse.f sr04_Lines.f word_Lines.f parseS
 rw [if_pos (by omega),Option.bind_some]
 dsimp only
 by_cases her : (linesL (bl s)).2.1 = 0
 ·
  obtain ⟨hb1,hb2⟩:=lines_bound her
  rw [if_pos her,if_neg (fun h => h her)]
  exact parse_l0 s (linesL (bl s)).1 hb1 hb2 (linesL (bl s)).1.length 131100 0 ([],[],[]) (by omega) ⟨Nat.le_refl _,fun x hx => by simp at hx,fun x hx => by simp at hx,fun x hx => by simp at hx⟩ (by omega)
 ·
  rw [if_neg her,if_pos her]
  rfl
def legend_Print.f (l0 l1 l2 : List S23) : Option (ByteArray × Int) := if l0.length + l1.length + l2.length ≤ 1048576 ∧ shortQ l0 = true ∧ shortQ l1 = true ∧ shortQ l2 = true then some (lb (printS l0 l1 l2).1, (printS l0 l1 l2).2) else none
def sr30_Print.f (l0 l1 l2 : List S23) : Option (ByteArray × Int) := legend_Print.f l0 l1 l2
def legend_Parse.f (s : ByteArray) : Option (List S23 × List S23 × List S23 × Int × Int) := if s.size ≤ 1048576 then some (parsedOut (parseS (bl s))) else none
def sr30_Parse.f (s : ByteArray) : Option (List S23 × List S23 × List S23 × Int × Int) := legend_Parse.f s
theorem legend_Print.calls (A0_0 : Option Addr) (c0_0 : Nat) (l0_0 : List (S23)) (A0_1 : Option Addr) (c0_1 : Nat) (l0_1 : List (S23)) (A0_2 : Option Addr) (c0_2 : Nat) (l0_2 : List (S23)) (r1 : ByteArray) (r2 : Int) (w : World) (hr0_0 : Kd.C k23 w A0_0 l0_0.length l0_0) (hc0_0 : l0_0.length ≤ c0_0) (hr0_1 : Kd.C k23 w A0_1 l0_1.length l0_1) (hc0_1 : l0_1.length ≤ c0_1) (hr0_2 : Kd.C k23 w A0_2 l0_2.length l0_2) (hc0_2 : l0_2.length ≤ c0_2) (hGMaxL : MaxL w) (h : legend_Print.f l0_0 l0_1 l0_2 = some (r1, r2)) :
  Calls Tryz.prog 13 #[.agg #[.slice A0_0 l0_0.length c0_0,.slice A0_1 l0_1.length c0_1,.slice A0_2 l0_2.length c0_2]] w fun e w' => e = .returned (.tuple #[.string r1,.int .i64 r2]) ∧ Below w.heap.size w w':=by
 unfold legend_Print.f at h
 split at h
 ·
  rename_i hs
  have e:=Option.some.inj h
  rw [Prod.mk.injEq] at e
  obtain ⟨rfl,rfl⟩:=e
  exact legend_print' A0_0 c0_0 l0_0 A0_1 c0_1 l0_1 A0_2 c0_2 l0_2 w hr0_0 hc0_0 hr0_1 hc0_1 hr0_2 hc0_2 ⟨hs.1,shortQ_mem hs.2.1,shortQ_mem hs.2.2.1,shortQ_mem hs.2.2.2⟩ hGMaxL
 ·
  cases h
theorem sr30_Print.calls (A0_0 : Option Addr) (c0_0 : Nat) (l0_0 : List (S23)) (A0_1 : Option Addr) (c0_1 : Nat) (l0_1 : List (S23)) (A0_2 : Option Addr) (c0_2 : Nat) (l0_2 : List (S23)) (r1 : ByteArray) (r2 : Int) (w : World) (hr0_0 : Kd.C k23 w A0_0 l0_0.length l0_0) (hc0_0 : l0_0.length ≤ c0_0) (hr0_1 : Kd.C k23 w A0_1 l0_1.length l0_1) (hc0_1 : l0_1.length ≤ c0_1) (hr0_2 : Kd.C k23 w A0_2 l0_2.length l0_2) (hc0_2 : l0_2.length ≤ c0_2) (h : sr30_Print.f l0_0 l0_1 l0_2 = some (r1, r2)) :
  Calls Tryz.prog 14 #[.agg #[.slice A0_0 l0_0.length c0_0,.slice A0_1 l0_1.length c0_1,.slice A0_2 l0_2.length c0_2]] w fun e w' => e = .returned (.tuple #[.string r1,.int .i64 r2]) ∧ Below w.heap.size w w':=by
 unfold sr30_Print.f legend_Print.f at h
 split at h
 ·
  rename_i hs
  have hs1:=hs.1
  exact Q35.sr30_Print.calls 1048580 A0_0 c0_0 l0_0 A0_1 c0_1 l0_1 A0_2 c0_2 l0_2 r1 r2 w hr0_0 hc0_0 hr0_1 hc0_1 hr0_2 hc0_2 ((refPrint_eq l0_0 l0_1 l0_2 ⟨by omega,shortQ_mem hs.2.1⟩ ⟨by omega,shortQ_mem hs.2.2.1⟩ ⟨by omega,shortQ_mem hs.2.2.2⟩ 1048580 (by omega)).trans h)
 ·
  cases h
theorem legend_Parse.calls (a0 : ByteArray) (r1 : List (S23)) (r2 : List (S23)) (r3 : List (S23)) (r4 : Int) (r5 : Int) (w : World) (hGMaxL : MaxL w) (h : legend_Parse.f a0 = some (r1, r2, r3, r4, r5)) :
  Calls Tryz.prog 15 #[.string a0] w fun e w' => ∃ v0_ v1_ v2_ : Value,e = .returned (.tuple #[.agg #[v0_,v1_,v2_],.agg #[.int .i64 r4,.int .i64 r5]]) ∧ Kd.R k23 23 w' w.heap.size (fun _ => True) v0_ r1 ∧ Kd.R k23 23 w' w.heap.size (fun _ => True) v1_ r2 ∧ Kd.R k23 23 w' w.heap.size (fun _ => True) v2_ r3 ∧ Below w.heap.size w w':=by
 unfold legend_Parse.f at h
 split at h
 ·
  rename_i hs
  have e:=Option.some.inj h
  unfold parsedOut at e
  simp only [Prod.mk.injEq] at e
  obtain ⟨rfl,rfl,rfl,rfl,rfl⟩:=e
  exact legend_parse a0 hs w hGMaxL
 ·
  cases h
theorem sr30_Parse.calls (a0 : ByteArray) (r1 : List (S23)) (r2 : List (S23)) (r3 : List (S23)) (r4 : Int) (r5 : Int) (w : World) (h : sr30_Parse.f a0 = some (r1, r2, r3, r4, r5)) :
  Calls Tryz.prog 16 #[.string a0] w fun e w' => ∃ v0_ v1_ v2_ : Value,e = .returned (.tuple #[.agg #[v0_,v1_,v2_],.agg #[.int .i64 r4,.int .i64 r5]]) ∧ Kd.R k23 23 w' w.heap.size (fun k_ => some k_ ≠ (v1_ : Value).ownBlock ∧ some k_ ≠ (v2_ : Value).ownBlock) v0_ r1 ∧ Kd.R k23 23 w' w.heap.size (fun k_ => some k_ ≠ (v0_ : Value).ownBlock ∧ some k_ ≠ (v2_ : Value).ownBlock) v1_ r2 ∧ Kd.R k23 23 w' w.heap.size (fun k_ => some k_ ≠ (v0_ : Value).ownBlock ∧ some k_ ≠ (v1_ : Value).ownBlock) v2_ r3 ∧ Below w.heap.size w w':=by
 unfold sr30_Parse.f legend_Parse.f at h
 split at h
 ·
  rename_i hs
  exact Q35.sr30_Parse.calls 131100 a0 r1 r2 r3 r4 r5 w ((refParse_eq a0 hs).trans h)
 ·
  cases h
theorem same_loop (l : List S23) (hl : l.length ≤ 1048576) : Ev (fun k => Q33.sr19_SamePairs.f k l l) true := by
 have h:=ev_loop0 (n:=l.length) (fun k i => Q33.sr19_SamePairs.l0 k l l (i : Int)) (fun _ => true) true
  (Ev.step ev_yes fun k => by
   show Q33.sr19_SamePairs.l0 (k + 1) l l (l.length : Int) = _
   rw [Q33.sr19_SamePairs.l0,if_neg (by omega)])
  (fun i hi v hv => Ev.step hv fun k => by
   show Q33.sr19_SamePairs.l0 (k + 1) l l (i : Int) = _
   rw [Q33.sr19_SamePairs.l0,if_pos (by omega),if_pos (by omega),if_pos (by omega),if_neg (by simp),wrap_succ i (by omega)])
 rw [Bool.and_true,List.all_eq_true.2 (fun _ _ => rfl)] at h
 refine h.congr fun k => ?_
 show Q33.sr19_SamePairs.f k l l = _
 unfold Q33.sr19_SamePairs.f
 rw [if_pos rfl]
 rfl
theorem same_ev (m0 m1 m2 : List S23) (h0 : m0.length ≤ 1048576) (h1 : m1.length ≤ 1048576) (h2 : m2.length ≤ 1048576) : Ev (fun k => Q33.sr29_Same.f k m0 m1 m2 m0 m1 m2) true := by
 obtain ⟨K0,e0⟩:=same_loop m0 h0
 obtain ⟨K1,e1⟩:=same_loop m1 h1
 obtain ⟨K2,e2⟩:=same_loop m2 h2
 refine ⟨max K0 (max K1 K2),fun k hk => ?_⟩
 have q0:=e0 k (by omega)
 have q1:=e1 k (by omega)
 have q2:=e2 k (by omega)
 dsimp only at q0 q1 q2
 show Q33.sr29_Same.f k m0 m1 m2 m0 m1 m2 = some true
 unfold Q33.sr29_Same.f
 rw [q0,Option.bind_some,if_pos rfl,q1,Option.bind_some,if_pos rfl,q2,Option.bind_some]
theorem pairs_inj : ∀ (l m : List S23), l.map pairT = m.map pairT → l = m
 | [],[],_ => rfl
 | [],y :: m,h => by simp at h
 | x :: l,[],h => by simp at h
 | x :: l,y :: m,h => by
  rw [List.map_cons,List.map_cons,List.cons.injEq] at h
  have h1 : pairT x = pairT y:=h.1
  unfold pairT at h1
  rw [Prod.mk.injEq] at h1
  have e : x = y:=by
   obtain ⟨a,b⟩:=x
   obtain ⟨c,d⟩:=y
   obtain rfl : a = c:=bl_inj h1.1
   obtain rfl : b = d:=bl_inj h1.2
   rfl
  rw [e,pairs_inj l m h.2]
def sr29_Same.f (l0 l1 l2 m0 m1 m2 : List S23) : Option Bool := if (l0.map pairT = m0.map pairT ∧ l1.map pairT = m1.map pairT ∧ l2.map pairT = m2.map pairT) ∧ l0.length ≤ 1048576 ∧ l1.length ≤ 1048576 ∧ l2.length ≤ 1048576 then some true else none
theorem sr29_Same.calls (A0_0 : Option Addr) (c0_0 : Nat) (l0_0 : List (S23)) (A0_1 : Option Addr) (c0_1 : Nat) (l0_1 : List (S23)) (A0_2 : Option Addr) (c0_2 : Nat) (l0_2 : List (S23)) (A1_0 : Option Addr) (c1_0 : Nat) (l1_0 : List (S23)) (A1_1 : Option Addr) (c1_1 : Nat) (l1_1 : List (S23)) (A1_2 : Option Addr) (c1_2 : Nat) (l1_2 : List (S23)) (r : Bool) (w : World) (hr0_0 : Kd.C k23 w A0_0 l0_0.length l0_0) (hc0_0 : l0_0.length ≤ c0_0) (hr0_1 : Kd.C k23 w A0_1 l0_1.length l0_1) (hc0_1 : l0_1.length ≤ c0_1) (hr0_2 : Kd.C k23 w A0_2 l0_2.length l0_2) (hc0_2 : l0_2.length ≤ c0_2) (hr1_0 : Kd.C k23 w A1_0 l1_0.length l1_0) (hc1_0 : l1_0.length ≤ c1_0) (hr1_1 : Kd.C k23 w A1_1 l1_1.length l1_1) (hc1_1 : l1_1.length ≤ c1_1) (hr1_2 : Kd.C k23 w A1_2 l1_2.length l1_2) (hc1_2 : l1_2.length ≤ c1_2) (h : sr29_Same.f l0_0 l0_1 l0_2 l1_0 l1_1 l1_2 = some r) :
  Calls Tryz.prog 17 #[.agg #[.slice A0_0 l0_0.length c0_0,.slice A0_1 l0_1.length c0_1,.slice A0_2 l0_2.length c0_2],.agg #[.slice A1_0 l1_0.length c1_0,.slice A1_1 l1_1.length c1_1,.slice A1_2 l1_2.length c1_2]] w fun e w' => e = .returned (.bool r) ∧ Below w.heap.size w w':=by
 unfold sr29_Same.f at h
 split at h
 ·
  rename_i hs
  obtain ⟨⟨e0,e1,e2⟩,s0,s1,s2⟩:=hs
  obtain rfl:=pairs_inj _ _ e0
  obtain rfl:=pairs_inj _ _ e1
  obtain rfl:=pairs_inj _ _ e2
  obtain rfl:=Option.some.inj h
  obtain ⟨K,hK⟩:=same_ev l0_0 l0_1 l0_2 s0 s1 s2
  exact Q33.sr29_Same.calls K A0_0 c0_0 l0_0 A0_1 c0_1 l0_1 A0_2 c0_2 l0_2 A1_0 c1_0 l0_0 A1_1 c1_1 l0_1 A1_2 c1_2 l0_2 true w hr0_0 hc0_0 hr0_1 hc0_1 hr0_2 hc0_2 hr1_0 hc1_0 hr1_1 hc1_1 hr1_2 hc1_2 (hK K (Nat.le_refl _))
 ·
  cases h
end Go.Proofs.YtaokkkolbifdpaaGreatDoor.Hand
end

section
namespace Go.Proofs.YtaokkkolbifdpaaGreatDoor.PLegendTexts
open Go.RowKit Go.Proofs.YtaokkkolbifdpaaGreatDoorW
open PrintWords PrintLast PrintMore Go.Proofs.YtaokkkolbifdpaaGreatDoor.Hand
attribute [local go_sem] max2_int min2_int max_two min_two max_three min_three max_four min_four
def errW : Option Int → Value
  | none => .nilIface
  | some c => .iface 0 (.int .i64 c)
theorem errW_none : errW none = .nilIface := rfl
theorem errW_some (c : Int) : errW (some c) = .iface 0 (.int .i64 c) := rfl
theorem info23 : (Tryz.prog.info? 23).map (fun i => (i.zero, i.size, i.bytes)) = some (some (.agg #[(.string ⟨#[]⟩), (.string ⟨#[]⟩)]), 2, 32) := by kernel_rfl
theorem eqA40 (d : Nat) (w : World) (x0 y0 : Int) (x1 y1 : Int) :
    (Op.equalIn (d + 2) 40 (.agg #[.int .i64 x0,.int .i64 x1]) (.agg #[.int .i64 y0,.int .i64 y1])).run Tryz.prog w = .ok (x0 == y0 && (x1 == y1)) w:=by
 refine eqA_of Tryz.underlying40 (by kernel_rfl) ?_
 refine eqf_cons (by rfl) (by go_simp;rfl) (by go_simp;rfl) (by go_simp) ?_
 exact eqf_last (by rfl) (by go_simp;rfl) (by go_simp;rfl) (by go_simp)
mutual
def sl30_short.l0 : Nat → List (S23) → List (S23) → Int → Option ((List (S23)))
  | 0,_,_,_ => none
  | k + 1,x0,x3,x4 => if x4 < (x0.length : Int) then (sl30_short.j1 k x0 x3 x4 (decide (x4 < 30))) else (sl30_short.j1 k x0 x3 x4 false)
def sl30_short.j1 : Nat → List (S23) → List (S23) → Int → Bool → Option ((List (S23)))
  | 0,_,_,_,_ => none
  | k + 1,x0,x3,x4,x12 => if x12 = true then (if 0 ≤ x4 then (if x4 < (x0.length : Int) then (if (((rd_T23 x0 x4).f0).size : Int) < 120 then (if (((rd_T23 x0 x4).f1).size : Int) < 120 then (if x3.length < 4398046511104 then (sl30_short.l0 k x0 (x3 ++ [(⟨(rd_T23 x0 x4).f0,(rd_T23 x0 x4).f1⟩ : S23)]) (wrap64 (x4 + 1))) else (none)) else (sl30_short.l0 k x0 x3 (wrap64 (x4 + 1)))) else (sl30_short.l0 k x0 x3 (wrap64 (x4 + 1)))) else (none)) else (none)) else (some x3)
end
def sl30_short.f (k : Nat) (l0 : List (S23)) : Option ((List (S23))) := sl30_short.l0 k l0 ([] : List (S23)) 0
theorem sl30_short.calls (k : Nat) (A0 : Option Addr) (c0 : Nat) (l0 : List (S23)) (r : List (S23)) (w : World) (hr0 : Kd.C k23 w A0 l0.length l0) (hc0 : l0.length ≤ c0) (h : sl30_short.f k l0 = some r) :
    Calls Tryz.prog 12 #[.slice A0 l0.length c0] w fun e w' => ∃ v0_ : Value,e = .returned (v0_) ∧ Kd.R k23 23 w' w.heap.size (fun _ => True) v0_ r ∧ Below w.heap.size w w':=by
 have hu23:=Tryz.underlying23
 have HR0:=aq hr0
 have HC0:=aq hc0
 clear hr0 hc0
 have HB:=aq (Below.refl w.heap.size w)
 have H : (sl30_short.l0 k l0 ([] : List (S23)) 0) = some r:=h
 clear h
 have H':=aq H
 clear H
 go_enter Tryz.func12,Tryz.ntmps12
 go_wp2
 go_loopg [3,4] k (fun kq v3 v4 w' => ∃ (x3_1 : List (S23)) (x4_1 : Int),v4 = .int .i64 x4_1 ∧ Aside0 (sl30_short.l0 kq l0 x3_1 x4_1 = some r) ∧ Aside0 (kq ≤ k) ∧ Aside0 (Kd.R k23 23 w' w.heap.size (fun _ => True) v3 x3_1) ∧ Aside0 (Below w.heap.size w w'))
 case atStart => exact ⟨(([] : List (S23))),(0),eS,H',⟨Nat.le_refl _⟩,⟨by first|exact Kd.R_nil _ _ _ _ _|exact Kd.N_nil _ _ _ _ _|exact Kd.V_nil _ _ _ _ _|exact Kd.Q_nil _ _ _ _ _|exact Kd.S_nil _ _ _ _ _⟩,⟨bH⟩⟩
 case round =>
 clear H'
 obtain ⟨x3_1,x4_1,rfl,HA,HK1,HO_3,HB⟩:=hrel
 cases gk with
 | zero => exact absurd HA.out (by simp [sl30_short.l0])
 | succ k1 =>
 have H:=HA.out
 clear HA
 simp only [sl30_short.l0] at H
 have HC2:=aq H
 clear H
 go_upto_region 3 with (fail)
 go_cut [12] (fun v12 wc => ∃ (kq : Nat) (x12_1 : Bool),v12 = .bool x12_1 ∧ Aside0 (sl30_short.j1 kq l0 x3_1 x4_1 x12_1 = some r) ∧ Aside0 (kq ≤ k1) ∧ Aside0 (Kd.R k23 23 wc w.heap.size (fun _ => True) u3 x3_1) ∧ Aside0 (Below w.heap.size w wc))
 case first =>
  have H:=HC2.out
  clear HC2
  by_cases c3 : x4_1 < (l0.length : Int)
  rotate_left
  · rw [if_neg c3] at H
    have c3b0 : decide (x4_1 < (l0.length : Int)) = false:=decide_eq_false c3
    clear c3
    (first|rw [c3b0]|rw [c3b1]|(simp only [i64_w,i32_w];rw [c3b0])|skip)
    have H':=aq H
    clear H
    go_wp2
    go_meet
    case rel => exact ⟨_,(false),eS,H',⟨by have:=HK1.out;first|omega|exact Nat.le_refl _⟩,⟨by (with_reducible repeat (first|apply Kd.R_alloc|apply Kd.R_drewN|apply Kd.R_drew));exact HO_3.out⟩,⟨bH⟩⟩
  rw [if_pos c3] at H
  have c3b0 : decide (x4_1 < (l0.length : Int)) = true:=decide_eq_true c3
  clear c3
  (first|rw [c3b0]|rw [c3b1]|(simp only [i64_w,i32_w];rw [c3b0])|skip)
  have H':=aq H
  clear H
  go_wp2
  go_meet
  case rel => exact ⟨_,(decide (x4_1 < 30)),eS,H',⟨by have:=HK1.out;first|omega|exact Nat.le_refl _⟩,⟨by (with_reducible repeat (first|apply Kd.R_alloc|apply Kd.R_drewN|apply Kd.R_drew));exact HO_3.out⟩,⟨bH⟩⟩
 case rest =>
 clear HC2
 obtain ⟨kq,x12_1,rfl,HA,HJ1,HO_3,HB⟩:=hcut
 cases kq with
 | zero => exact absurd HA.out (by simp [sl30_short.j1])
 | succ kj1 =>
 have H:=HA.out
 clear HA
 simp only [sl30_short.j1] at H
 by_cases c4 : x12_1 = true
 rotate_left
 · replace c4:=Bool.eq_false_iff.mpr c4
   subst c4
   have H1 : (some x3_1) = some r:=by rw [if_neg (show ¬ (false = true) by decide)] at H;exact H
   clear H
   have H:=H1
   clear H1
   obtain rfl:=Option.some.inj H
   go_wp2
   go_ret
   exact ⟨_,eR,by (with_reducible repeat (first|apply Kd.R_alloc|apply Kd.R_drewN|apply Kd.R_drew));exact HO_3.out,bH⟩
 subst c4
 have H1 : (if 0 ≤ x4_1 then (if x4_1 < (l0.length : Int) then (if (((rd_T23 l0 x4_1).f0).size : Int) < 120 then (if (((rd_T23 l0 x4_1).f1).size : Int) < 120 then (if x3_1.length < 4398046511104 then (sl30_short.l0 kj1 l0 (x3_1 ++ [(⟨(rd_T23 l0 x4_1).f0,(rd_T23 l0 x4_1).f1⟩ : S23)]) (wrap64 (x4_1 + 1))) else (none)) else (sl30_short.l0 kj1 l0 x3_1 (wrap64 (x4_1 + 1)))) else (sl30_short.l0 kj1 l0 x3_1 (wrap64 (x4_1 + 1)))) else (none)) else (none)) = some r:=by rw [if_pos rfl] at H;exact H
 clear H
 have H:=H1
 clear H1
 by_cases c5 : 0 ≤ x4_1
 rotate_left
 · rw [if_neg c5] at H
   exact absurd H (by simp)
 rw [if_pos c5] at H
 have c5b0 : decide (0 ≤ x4_1) = true:=decide_eq_true c5
 clear c5
 by_cases c6 : x4_1 < (l0.length : Int)
 rotate_left
 · rw [if_neg c6] at H
   exact absurd H (by simp)
 rw [if_pos c6] at H
 have c6b0 : decide (x4_1 < (l0.length : Int)) = true:=decide_eq_true c6
 clear c6
 by_cases c7 : (((rd_T23 l0 x4_1).f0).size : Int) < 120
 rotate_left
 · rw [if_neg c7] at H
   have c7b0 : decide ((((rd_T23 l0 x4_1).f0).size : Int) < 120) = false:=decide_eq_false c7
   have c7b1 : decide (((rd_T23 l0 x4_1).f0).size < 120) = false:=decide_eq_false (by omega)
   clear c7
   have H':=aq H
   clear H
   have p101 : 0 ≤ (x4_1 : Int):=of_decide_eq_true aS
   have q101 : x4_1 < (l0.length : Int):=of_decide_eq_true aS
   obtain ⟨ad101,e101,hx101_0,hx101_1⟩:=at_T23 HR0.out x4_1 p101 q101
   cases e101
   replace hx101_0:=(HB.out.cell (World.block_lt_of_cell? w _ hx101_0)).trans hx101_0
   replace hx101_1:=(HB.out.cell (World.block_lt_of_cell? w _ hx101_1)).trans hx101_1
   replace p101:=eq_true p101
   replace q101:=eq_true q101
   go_wp2
   go_roundg kj1
   case measure => have:=HK1.out;have:=HJ1.out;omega
   case rel => exact ⟨(x3_1),(wrap64 (x4_1 + 1)),eS,H',⟨by have:=HK1.out;have:=HJ1.out;omega⟩,⟨by (with_reducible repeat (first|apply Kd.R_alloc|apply Kd.R_drewN|apply Kd.R_drew));exact HO_3.out⟩,⟨bH⟩⟩
 rw [if_pos c7] at H
 have c7b0 : decide ((((rd_T23 l0 x4_1).f0).size : Int) < 120) = true:=decide_eq_true c7
 have c7b1 : decide (((rd_T23 l0 x4_1).f0).size < 120) = true:=decide_eq_true (by omega)
 clear c7
 by_cases c8 : (((rd_T23 l0 x4_1).f1).size : Int) < 120
 rotate_left
 · rw [if_neg c8] at H
   have c8b0 : decide ((((rd_T23 l0 x4_1).f1).size : Int) < 120) = false:=decide_eq_false c8
   have c8b1 : decide (((rd_T23 l0 x4_1).f1).size < 120) = false:=decide_eq_false (by omega)
   clear c8
   have H':=aq H
   clear H
   have p101 : 0 ≤ (x4_1 : Int):=of_decide_eq_true aS
   have q101 : x4_1 < (l0.length : Int):=of_decide_eq_true aS
   obtain ⟨ad101,e101,hx101_0,hx101_1⟩:=at_T23 HR0.out x4_1 p101 q101
   cases e101
   replace hx101_0:=(HB.out.cell (World.block_lt_of_cell? w _ hx101_0)).trans hx101_0
   replace hx101_1:=(HB.out.cell (World.block_lt_of_cell? w _ hx101_1)).trans hx101_1
   replace p101:=eq_true p101
   replace q101:=eq_true q101
   have p102 : 0 ≤ (x4_1 : Int):=of_decide_eq_true aS
   have q102 : x4_1 < (l0.length : Int):=of_decide_eq_true aS
   obtain ⟨ad102,e102,hx102_0,hx102_1⟩:=at_T23 HR0.out x4_1 p102 q102
   obtain rfl : ad101 = ad102:=(by injection e102)
   replace hx102_0:=(HB.out.cell (World.block_lt_of_cell? w _ hx102_0)).trans hx102_0
   replace hx102_1:=(HB.out.cell (World.block_lt_of_cell? w _ hx102_1)).trans hx102_1
   replace p102:=eq_true p102
   replace q102:=eq_true q102
   go_wp2
   go_roundg kj1
   case measure => have:=HK1.out;have:=HJ1.out;omega
   case rel => exact ⟨(x3_1),(wrap64 (x4_1 + 1)),eS,H',⟨by have:=HK1.out;have:=HJ1.out;omega⟩,⟨by (with_reducible repeat (first|apply Kd.R_alloc|apply Kd.R_drewN|apply Kd.R_drew));exact HO_3.out⟩,⟨bH⟩⟩
 rw [if_pos c8] at H
 have c8b0 : decide ((((rd_T23 l0 x4_1).f1).size : Int) < 120) = true:=decide_eq_true c8
 have c8b1 : decide (((rd_T23 l0 x4_1).f1).size < 120) = true:=decide_eq_true (by omega)
 clear c8
 by_cases c9 : x3_1.length < 4398046511104
 rotate_left
 · rw [if_neg c9] at H
   exact absurd H (by simp)
 rw [if_pos c9] at H
 have LMc9:=aq c9
 clear c9
 obtain ⟨y104,hy104⟩ : ∃ y_ : List (S23),y_ = (x3_1 ++ [(⟨(rd_T23 l0 x4_1).f0,(rd_T23 l0 x4_1).f1⟩ : S23)]):=⟨_,rfl⟩
 replace H : (sl30_short.l0 kj1 l0 y104 (wrap64 (x4_1 + 1))) = some r:=by first|(rw [hy104];with_reducible exact H)|(have H2_:=(Option.bind_some _ _).symm.trans H;rw [hy104];with_reducible exact H2_)|(have H2_:=(Option.bind_some _ _).symm.trans H;with_reducible exact H2_)|with_reducible exact H|(rw [hy104];exact H)|exact H
 have Ny104:=aq hy104
 clear hy104
 have H':=aq H
 clear H
 have p101 : 0 ≤ (x4_1 : Int):=of_decide_eq_true aS
 have q101 : x4_1 < (l0.length : Int):=of_decide_eq_true aS
 obtain ⟨ad101,e101,hx101_0,hx101_1⟩:=at_T23 HR0.out x4_1 p101 q101
 cases e101
 replace hx101_0:=(HB.out.cell (World.block_lt_of_cell? w _ hx101_0)).trans hx101_0
 replace hx101_1:=(HB.out.cell (World.block_lt_of_cell? w _ hx101_1)).trans hx101_1
 replace p101:=eq_true p101
 replace q101:=eq_true q101
 have p102 : 0 ≤ (x4_1 : Int):=of_decide_eq_true aS
 have q102 : x4_1 < (l0.length : Int):=of_decide_eq_true aS
 obtain ⟨ad102,e102,hx102_0,hx102_1⟩:=at_T23 HR0.out x4_1 p102 q102
 obtain rfl : ad101 = ad102:=(by injection e102)
 replace hx102_0:=(HB.out.cell (World.block_lt_of_cell? w _ hx102_0)).trans hx102_0
 replace hx102_1:=(HB.out.cell (World.block_lt_of_cell? w _ hx102_1)).trans hx102_1
 replace p102:=eq_true p102
 replace q102:=eq_true q102
 have p103 : 0 ≤ (x4_1 : Int):=of_decide_eq_true aS
 have q103 : x4_1 < (l0.length : Int):=of_decide_eq_true aS
 obtain ⟨ad103,e103,hx103_0,hx103_1⟩:=at_T23 HR0.out x4_1 p103 q103
 obtain rfl : ad101 = ad103:=(by injection e103)
 replace hx103_0:=(HB.out.cell (World.block_lt_of_cell? w _ hx103_0)).trans hx103_0
 replace hx103_1:=(HB.out.cell (World.block_lt_of_cell? w _ hx103_1)).trans hx103_1
 replace p103:=eq_true p103
 replace q103:=eq_true q103
 go_wp2_with (first|((with_reducible refine gate_builtin (b:=.append) (xs:=#[.tmp 31,.tmp 36]) rfl ?_);(try (refine gate_guard (by rfl) ?_;dsimp only));at_builtin;refine Kd.R_append k23 (w0:=w) w.heap.size rfl (.tmp 31) (.tmp 36) 32 23 (.agg #[(.string ⟨#[]⟩),(.string ⟨#[]⟩)]) 32 rfl Tryz.underlying32 info23 rfl (by decide) (by omega) u3 x3_1 (⟨(rd_T23 l0 x4_1).f0,(rd_T23 l0 x4_1).f1⟩ : S23) [.string ((rd_T23 l0 x4_1).f0),.string ((rd_T23 l0 x4_1).f1)] (fun _ => True) (fun _ => False) rfl rfl ?aP (fun _ hk => hk.elim) ?aF ?aO ?aB ?aS ?aL ?_;(case aP => exact k23_mkM _ _ _ (⟨(rd_T23 l0 x4_1).f0,(rd_T23 l0 x4_1).f1⟩ : S23));(case aB => exact bH);(case aF => exact (fun _ _ => trivial));(case aO => exact (RU HO_3.out));(case aS => exact (below_size bH));(case aL => have:=LMc9.out;omega);intro v105 w10 ho hb hg hat;rw [← Ny104.out] at ho;have n0_:=aq (hb);have n1_:=aq (ho);clear HB;clear HO_3;have HB:=n0_;have HO106:=n1_;clear n0_ n1_;clear ho hb hg hat))
 go_roundg kj1
 case measure => have:=HK1.out;have:=HJ1.out;omega
 case rel => exact ⟨(y104),(wrap64 (x4_1 + 1)),eS,H',⟨by have:=HK1.out;have:=HJ1.out;omega⟩,⟨by (with_reducible repeat (first|apply Kd.R_alloc|apply Kd.R_drewN|apply Kd.R_drew));exact HO106.out⟩,⟨bH⟩⟩
end Go.Proofs.YtaokkkolbifdpaaGreatDoor.PLegendTexts
end

section
namespace Go.Proofs.YtaokkkolbifdpaaGreatDoor.PLegendTexts
open Go.RowKit Go.Proofs.YtaokkkolbifdpaaGreatDoorW
open PrintWords PrintLast PrintMore Go.Proofs.YtaokkkolbifdpaaGreatDoor.Hand
attribute [local go_sem] max2_int min2_int max_two min_two max_three min_three max_four min_four
attribute [local go_sem high] eqA40
def sl30_LegendTexts.f (k : Nat) (l0_0 : List (S23)) (l0_1 : List (S23)) (l0_2 : List (S23)) (a1 : ByteArray) : Option (Bool) := if (a1.size : Int) > 9000 then ((sl30_sure.f).bind fun t108 => (some t108)) else ((sl30_short.f k l0_0).bind fun t109 => ((sl30_short.f k l0_1).bind fun t112 => ((sl30_short.f k l0_2).bind fun t115 => ((legend_Print.f t109 t112 t115).bind fun bt118 => ((sr30_Print.f t109 t112 t115).bind fun bt120 => ((legend_Parse.f a1).bind fun bt122 => ((sr30_Parse.f a1).bind fun bt135 => ((sl30_sure.f).bind fun t148 => (if t148 = true then (if bt118.1.toList = bt120.1.toList then (if bt118.2 = bt120.2 then ((sr29_Same.f bt122.1 bt122.2.1 bt122.2.2.1 bt135.1 bt135.2.1 bt135.2.2.1).bind fun t149 => (if t149 = true then (some (bt122.2.2.2.1 == bt135.2.2.2.1 && (bt122.2.2.2.2 == bt135.2.2.2.2))) else (some false))) else (some false)) else (some false)) else (some false))))))))))
def sl30_LegendTexts.T3 : Bool × List (List Nat × List Nat) := (true, [([], []), ([0], [0]), ([1], [1]), ([], []), ([3], [3]), ([4, 2], [4]), ([], []), ([6], [6]), ([7, 5], [7]), ([2, 5, 8], [2, 5, 8]), ([9, 8, 0, 1, 2, 3, 4, 5, 6, 7, 8, 9], [9])])
def sl30_LegendTexts.B3 : List Nat := [0, 1, 3, 0, 8, 31, 0, 64, 255, 511, 1023]
theorem sl30_LegendTexts.tab3 : rtab .any (opsOf Tryz.f5 3) = sl30_LegendTexts.T3 := by kernel_rfl
theorem sl30_LegendTexts.bits3 : waitsOk sl30_LegendTexts.T3.2 sl30_LegendTexts.B3 = true := by kernel_rfl
theorem sl30_LegendTexts.calls (k : Nat) (A0_0 : Option Addr) (c0_0 : Nat) (l0_0 : List (S23)) (A0_1 : Option Addr) (c0_1 : Nat) (l0_1 : List (S23)) (A0_2 : Option Addr) (c0_2 : Nat) (l0_2 : List (S23)) (a1 : ByteArray) (r : Bool) (w : World) (hr0_0 : Kd.C k23 w A0_0 l0_0.length l0_0) (hc0_0 : l0_0.length ≤ c0_0) (hr0_1 : Kd.C k23 w A0_1 l0_1.length l0_1) (hc0_1 : l0_1.length ≤ c0_1) (hr0_2 : Kd.C k23 w A0_2 l0_2.length l0_2) (hc0_2 : l0_2.length ≤ c0_2) (hGMaxL : MaxL w) (h : sl30_LegendTexts.f k l0_0 l0_1 l0_2 a1 = some r) (hr : r = true) :
    Calls Tryz.prog 5 #[.agg #[.slice A0_0 l0_0.length c0_0,.slice A0_1 l0_1.length c0_1,.slice A0_2 l0_2.length c0_2],.string a1] w fun e w' => e = .returned (.bool r) ∧ Below w.heap.size w w':=by
 have hu34:=Tryz.underlying34
 have hu40:=Tryz.underlying40
 have HGMaxL:=aq hGMaxL
 clear hGMaxL
 have HR0_0:=aq hr0_0
 have HC0_0:=aq hc0_0
 clear hr0_0 hc0_0
 have HR0_1:=aq hr0_1
 have HC0_1:=aq hc0_1
 clear hr0_1 hc0_1
 have HR0_2:=aq hr0_2
 have HC0_2:=aq hc0_2
 clear hr0_2 hc0_2
 have HRT:=aq hr
 clear hr
 have HB:=aq (Below.refl w.heap.size w)
 have H : (if (a1.size : Int) > 9000 then ((sl30_sure.f).bind fun t108 => (some t108)) else ((sl30_short.f k l0_0).bind fun t109 => ((sl30_short.f k l0_1).bind fun t112 => ((sl30_short.f k l0_2).bind fun t115 => ((legend_Print.f t109 t112 t115).bind fun bt118 => ((sr30_Print.f t109 t112 t115).bind fun bt120 => ((legend_Parse.f a1).bind fun bt122 => ((sr30_Parse.f a1).bind fun bt135 => ((sl30_sure.f).bind fun t148 => (if t148 = true then (if bt118.1.toList = bt120.1.toList then (if bt118.2 = bt120.2 then ((sr29_Same.f bt122.1 bt122.2.1 bt122.2.2.1 bt135.1 bt135.2.1 bt135.2.2.1).bind fun t149 => (if t149 = true then (some (bt122.2.2.2.1 == bt135.2.2.2.1 && (bt122.2.2.2.2 == bt135.2.2.2.2))) else (some false))) else (some false)) else (some false)) else (some false))))))))))) = some r:=h
 clear h
 by_cases c3 : (a1.size : Int) > 9000
 · rw [if_pos c3] at H
   have c3b0 : decide (9000 < (a1.size : Int)) = true:=decide_eq_true c3
   have c3b1 : decide (9000 < a1.size) = true:=decide_eq_true (by omega)
   clear c3
   replace H:=Option.bind_eq_some_iff.mp H
   obtain ⟨t108,A40,H⟩:=H
   have A4:=aq A40
   clear A40
   obtain rfl:=Option.some.inj H
   go_enter Tryz.func5,Tryz.ntmps5
   go_wp2_with (first|((with_reducible refine gate_dst (N:=2) rfl ?_);refine box_event rfl (N:=2) rfl (cs:=#[.slice A0_0 l0_0.length c0_0,.slice A0_1 l0_1.length c0_1,.slice A0_2 l0_2.length c0_2]) (t:=34) gS ?_;intro gb107 hg w5 hbox hb;have BK107:=aq (hbox);have GE107:=aq ((GN hg : w.heap.size ≤ gb107));replace HB:=aq (below_step bH hb);clear hb hbox hg)|((with_reducible refine gate_callee (f:=6) rfl ?_);refine goesL_ (some 16) rfl rfl Tryz.func6 (by kernel_rfl) rfl #[] rfl eA ?_;(with_reducible refine (sl30_sure.calls  t108 _ ?side1 A4.out).mono ?_);(case side1 => exact MaxL.below HGMaxL.out bH);rintro e w6 ⟨rfl,hb⟩;refine ⟨_,rfl,?_⟩;replace BK107:=KN BK107 hb;replace HB:=aq (below_step bH hb);(try clear hb);(try clear hb2);(try clear hk);(try clear hi)))
   go_ret
   exact ⟨eR,bH⟩
 rw [if_neg c3] at H
 have c3b0 : decide (9000 < (a1.size : Int)) = false:=decide_eq_false c3
 have c3b1 : decide (9000 < a1.size) = false:=decide_eq_false (by omega)
 clear c3
 replace H:=Option.bind_eq_some_iff.mp H
 obtain ⟨t109,A70,H⟩:=H
 have A7:=aq A70
 clear A70
 replace H:=Option.bind_eq_some_iff.mp H
 obtain ⟨t112,A80,H⟩:=H
 have A8:=aq A80
 clear A80
 replace H:=Option.bind_eq_some_iff.mp H
 obtain ⟨t115,A90,H⟩:=H
 have A9:=aq A90
 clear A90
 replace H:=Option.bind_eq_some_iff.mp H
 obtain ⟨⟨t118,t119⟩,A100,H⟩:=H
 replace H : ((sr30_Print.f t109 t112 t115).bind fun bt120 => ((legend_Parse.f a1).bind fun bt122 => ((sr30_Parse.f a1).bind fun bt135 => ((sl30_sure.f).bind fun t148 => (if t148 = true then (if t118.toList = bt120.1.toList then (if t119 = bt120.2 then ((sr29_Same.f bt122.1 bt122.2.1 bt122.2.2.1 bt135.1 bt135.2.1 bt135.2.2.1).bind fun t149 => (if t149 = true then (some (bt122.2.2.2.1 == bt135.2.2.2.1 && (bt122.2.2.2.2 == bt135.2.2.2.2))) else (some false))) else (some false)) else (some false)) else (some false)))))) = some r:=H
 have A10:=aq A100
 clear A100
 replace H:=Option.bind_eq_some_iff.mp H
 obtain ⟨⟨t120,t121⟩,A110,H⟩:=H
 replace H : ((legend_Parse.f a1).bind fun bt122 => ((sr30_Parse.f a1).bind fun bt135 => ((sl30_sure.f).bind fun t148 => (if t148 = true then (if t118.toList = t120.toList then (if t119 = t121 then ((sr29_Same.f bt122.1 bt122.2.1 bt122.2.2.1 bt135.1 bt135.2.1 bt135.2.2.1).bind fun t149 => (if t149 = true then (some (bt122.2.2.2.1 == bt135.2.2.2.1 && (bt122.2.2.2.2 == bt135.2.2.2.2))) else (some false))) else (some false)) else (some false)) else (some false))))) = some r:=H
 have A11:=aq A110
 clear A110
 replace H:=Option.bind_eq_some_iff.mp H
 obtain ⟨⟨t122,t125,t128,t131,t132⟩,A120,H⟩:=H
 replace H : ((sr30_Parse.f a1).bind fun bt135 => ((sl30_sure.f).bind fun t148 => (if t148 = true then (if t118.toList = t120.toList then (if t119 = t121 then ((sr29_Same.f t122 t125 t128 bt135.1 bt135.2.1 bt135.2.2.1).bind fun t149 => (if t149 = true then (some (t131 == bt135.2.2.2.1 && (t132 == bt135.2.2.2.2))) else (some false))) else (some false)) else (some false)) else (some false)))) = some r:=H
 have A12:=aq A120
 clear A120
 replace H:=Option.bind_eq_some_iff.mp H
 obtain ⟨⟨t135,t138,t141,t144,t145⟩,A130,H⟩:=H
 replace H : ((sl30_sure.f).bind fun t148 => (if t148 = true then (if t118.toList = t120.toList then (if t119 = t121 then ((sr29_Same.f t122 t125 t128 t135 t138 t141).bind fun t149 => (if t149 = true then (some (t131 == t144 && (t132 == t145))) else (some false))) else (some false)) else (some false)) else (some false))) = some r:=H
 have A13:=aq A130
 clear A130
 replace H:=Option.bind_eq_some_iff.mp H
 obtain ⟨t148,A140,H⟩:=H
 have A14:=aq A140
 clear A140
 by_cases c15 : t148 = true
 rotate_left
 · replace c15:=Bool.eq_false_iff.mpr c15
   subst c15
   have H1 : (some false) = some r:=by rw [if_neg (show ¬ (false = true) by decide)] at H;exact H
   exact absurd ((Option.some.inj H1).trans HRT.out) (by decide)
 subst c15
 have H1 : (if t118.toList = t120.toList then (if t119 = t121 then ((sr29_Same.f t122 t125 t128 t135 t138 t141).bind fun t149 => (if t149 = true then (some (t131 == t144 && (t132 == t145))) else (some false))) else (some false)) else (some false)) = some r:=by rw [if_pos rfl] at H;exact H
 clear H
 have H:=H1
 clear H1
 by_cases c16 : t118.toList = t120.toList
 rotate_left
 · rw [if_neg c16] at H
   exact absurd ((Option.some.inj H).trans HRT.out) (by decide)
 rw [if_pos c16] at H
 have c16b0 : (t118.toList == t120.toList) = true:=beq_iff_eq.mpr c16
 have c16b1 : (t118.toList != t120.toList) = false:=bne_eq_false_iff_eq.mpr c16
 clear c16
 by_cases c17 : t119 = t121
 rotate_left
 · rw [if_neg c17] at H
   exact absurd ((Option.some.inj H).trans HRT.out) (by decide)
 rw [if_pos c17] at H
 have c17b0 : (t119 == t121) = true:=beq_iff_eq.mpr c17
 have c17b1 : (t119 != t121) = false:=bne_eq_false_iff_eq.mpr c17
 clear c17
 replace H:=Option.bind_eq_some_iff.mp H
 obtain ⟨t149,A180,H⟩:=H
 have A18:=aq A180
 clear A180
 by_cases c19 : t149 = true
 rotate_left
 · replace c19:=Bool.eq_false_iff.mpr c19
   subst c19
   have H1 : (some false) = some r:=by rw [if_neg (show ¬ (false = true) by decide)] at H;exact H
   exact absurd ((Option.some.inj H1).trans HRT.out) (by decide)
 subst c19
 have H1 : (some (t131 == t144 && (t132 == t145))) = some r:=by rw [if_pos rfl] at H;exact H
 clear H
 have H:=H1
 clear H1
 obtain rfl:=Option.some.inj H
 go_enter Tryz.func5,Tryz.ntmps5
 try go_wp2_with (first|((with_reducible refine gate_dst (N:=2) rfl ?_);refine box_event rfl (N:=2) rfl (cs:=#[.slice A0_0 l0_0.length c0_0,.slice A0_1 l0_1.length c0_1,.slice A0_2 l0_2.length c0_2]) (t:=34) gS ?_;intro gb107 hg w20 hbox hb;have BK107:=aq (hbox);have GE107:=aq ((GN hg : w.heap.size ≤ gb107));replace HB:=aq (below_step bH hb);clear hb hbox hg))
 replace BK107:=aq (blk_drew BK107.out)
 replace HB:=aq (below_drew1 HB.out)
 refine start_ (n:=11) (S:=fun w' => w'.cell? ⟨gb107,0,none⟩ = some (.slice A0_0 l0_0.length c0_0) ∧ w'.cell? ⟨gb107,1,none⟩ = some (.slice A0_1 l0_1.length c0_1) ∧ w'.cell? ⟨gb107,2,none⟩ = some (.slice A0_2 l0_2.length c0_2)) (ds:=[10]) #[false,false,false,false,false,false,false,false,false,false,false] (by kernel_rfl) rfl rfl ⟨(blk_cell BK107.out 0).trans rfl,(blk_cell BK107.out 1).trans rfl,(blk_cell BK107.out 2).trans rfl⟩ (fun hHeld => ?_);refine with_tabW sl30_LegendTexts.tab3 sl30_LegendTexts.bits3 (fun HT_ HW_ => ?_)
 generalize w20.drew = w21 at BK107 HB hHeld ⊢
 refine pS (i:=0) (N:=some 17) ?_
 refine pS (i:=3) (N:=some 20) ?_
 refine pS (i:=6) (N:=some 23) ?_
 refine tS (i:=1) (N:=some 18) rfl rfl hHeld HT_.out HW_.out (by kernel_rfl) (Or.inl ⟨by rfl,by rintro w' ⟨s0,s1,s2⟩;go_simp;with_reducible rfl⟩) ?_
 refine tS (i:=4) (N:=some 21) rfl rfl hHeld HT_.out HW_.out (by kernel_rfl) (Or.inl ⟨by rfl,by rintro w' ⟨s0,s1,s2⟩;go_simp;with_reducible rfl⟩) ?_
 refine tS (i:=7) (N:=some 24) rfl rfl hHeld HT_.out HW_.out (by kernel_rfl) (Or.inl ⟨by rfl,by rintro w' ⟨s0,s1,s2⟩;go_simp;with_reducible rfl⟩) ?_
 refine one_ (i:=2) (N:=some 19) #[true,true,true,true,true,false,true,true,false,false,false] rfl rfl (one_of HT_.out (by kernel_rfl)) (by decide) (fun K hK => ?_)
 refine goes_ Tryz.func12 (by kernel_rfl) rfl #[.slice A0_0 l0_0.length c0_0] (by rfl) rfl rfl eA ?_
 with_reducible refine (sl30_short.calls k _ _ l0_0 t109 _ ?side1 ?side2 A7.out).mono ?_
 (case side1 => exact CU HR0_0)
 (case side2 => exact HC0_0.out)
 rintro e w22 ⟨v110,rfl,ho0,hb⟩
 refine ⟨_,rfl,?_⟩
 have HO111:=aq (Kd.R_lower ho0 (below_size bH))
 replace BK107:=KN BK107 hb
 replace HB:=aq (below_step bH hb)
 (try clear hb)
 (try clear hb2)
 (try clear hk)
 (try clear hi)
 (try clear ho0)
 refine hK.out _ _ ⟨(blk_cell BK107.out 0).trans rfl,(blk_cell BK107.out 1).trans rfl,(blk_cell BK107.out 2).trans rfl⟩ (fun hHeld => ?_)
 clear hK K
 refine norm_ (a':=?_) ?_ ?_
 rotate_left
 · show Act.put _ (some 19) _ = _
   simp only [Act.put,List.setIfInBounds_toArray,List.set_cons_zero,List.set_cons_succ,i64_w,i32_w]
   rfl
 refine one_ (i:=5) (N:=some 22) #[true,true,true,true,true,true,true,true,false,false,false] rfl rfl (one_of HT_.out (by kernel_rfl)) (by decide) (fun K hK => ?_)
 refine goes_ Tryz.func12 (by kernel_rfl) rfl #[.slice A0_1 l0_1.length c0_1] (by rfl) rfl rfl eA ?_
 with_reducible refine (sl30_short.calls k _ _ l0_1 t112 _ ?side1 ?side2 A8.out).mono ?_
 (case side1 => exact CU HR0_1)
 (case side2 => exact HC0_1.out)
 rintro e w23 ⟨v113,rfl,ho0,hb⟩
 refine ⟨_,rfl,?_⟩
 have HO114:=aq (Kd.R_lower (Kd.R_new' ho0 (Kd.R_lt (RU HO111.out))) (below_size bH))
 replace HO111:=aq (Kd.R_elder' (RU HO111.out) (Kd.R_base ho0) hb)
 replace BK107:=KN BK107 hb
 replace HB:=aq (below_step bH hb)
 (try clear hb)
 (try clear hb2)
 (try clear hk)
 (try clear hi)
 (try clear ho0)
 refine hK.out _ _ ⟨(blk_cell BK107.out 0).trans rfl,(blk_cell BK107.out 1).trans rfl,(blk_cell BK107.out 2).trans rfl⟩ (fun hHeld => ?_)
 clear hK K
 refine norm_ (a':=?_) ?_ ?_
 rotate_left
 · show Act.put _ (some 22) _ = _
   simp only [Act.put,List.setIfInBounds_toArray,List.set_cons_zero,List.set_cons_succ,i64_w,i32_w]
   rfl
 refine one_ (i:=8) (N:=some 25) #[true,true,true,true,true,true,true,true,true,false,false] rfl rfl (one_of HT_.out (by kernel_rfl)) (by decide) (fun K hK => ?_)
 refine goes_ Tryz.func12 (by kernel_rfl) rfl #[.slice A0_2 l0_2.length c0_2] (by rfl) rfl rfl eA ?_
 with_reducible refine (sl30_short.calls k _ _ l0_2 t115 _ ?side1 ?side2 A9.out).mono ?_
 (case side1 => exact CU HR0_2)
 (case side2 => exact HC0_2.out)
 rintro e w24 ⟨v116,rfl,ho0,hb⟩
 refine ⟨_,rfl,?_⟩
 have HO117:=aq (Kd.R_lower (Kd.R_new' (Kd.R_new' ho0 (Kd.R_lt (RU HO111.out))) (Kd.R_lt (RU HO114.out))) (below_size bH))
 replace HO111:=aq (Kd.R_elder' (RU HO111.out) (Kd.R_base ho0) hb)
 replace HO114:=aq (Kd.R_elder' (RU HO114.out) (Kd.R_base ho0) hb)
 replace BK107:=KN BK107 hb
 replace HB:=aq (below_step bH hb)
 (try clear hb)
 (try clear hb2)
 (try clear hk)
 (try clear hi)
 (try clear ho0)
 obtain ⟨Ao25,co25,eo25⟩:=Kd.R_slice HO117.out
 (first|subst eo25|(injection eo25 with f1_ f2_ f3_;have f4_:=f1_.symm;have f5_:=f3_.symm;clear f1_ f2_ f3_;subst f4_;subst f5_))
 obtain ⟨Ao26,co26,eo26⟩:=Kd.R_slice HO114.out
 (first|subst eo26|(injection eo26 with f1_ f2_ f3_;have f4_:=f1_.symm;have f5_:=f3_.symm;clear f1_ f2_ f3_;subst f4_;subst f5_))
 obtain ⟨Ao27,co27,eo27⟩:=Kd.R_slice HO111.out
 (first|subst eo27|(injection eo27 with f1_ f2_ f3_;have f4_:=f1_.symm;have f5_:=f3_.symm;clear f1_ f2_ f3_;subst f4_;subst f5_))
 refine hK.out _ _ ⟨(blk_cell BK107.out 0).trans rfl,(blk_cell BK107.out 1).trans rfl,(blk_cell BK107.out 2).trans rfl⟩ (fun hHeld => ?_)
 clear hK K
 refine norm_ (a':=?_) ?_ ?_
 rotate_left
 · show Act.put _ (some 25) _ = _
   simp only [Act.put,List.setIfInBounds_toArray,List.set_cons_zero,List.set_cons_succ,i64_w,i32_w]
   rfl
 refine pS (i:=9) (N:=some 26) ?_
 refine last_ (i:=10) (N:=none) #[true,true,true,true,true,true,true,true,true,true,true] rfl rfl (one_of HT_.out (by kernel_rfl)) (by decide) (fun K hK => ?_)
 have hs28 : w24.cell? ⟨gb107,0,none⟩ = some (.slice A0_0 l0_0.length c0_0):=(blk_cell BK107.out 0).trans rfl
 have hfs28:=blk_frozen BK107.out 0
 have hs29 : w24.cell? ⟨gb107,1,none⟩ = some (.slice A0_1 l0_1.length c0_1):=(blk_cell BK107.out 1).trans rfl
 have hfs29:=blk_frozen BK107.out 1
 have hs30 : w24.cell? ⟨gb107,2,none⟩ = some (.slice A0_2 l0_2.length c0_2):=(blk_cell BK107.out 2).trans rfl
 have hfs30:=blk_frozen BK107.out 2
 refine skip_ (w1:=?_) (by rfl) rfl ?_ ?_
 rotate_left
 · go_simp
   rfl
 refine hK.out _ _ ?_
 clear hK K
 refine done_ (done_of HT_.out (by kernel_rfl)) ?_
 have hcz31_0 : w24.cell? ⟨gb107,0,none⟩ = some (.slice A0_0 l0_0.length c0_0):=(blk_cell BK107.out 0).trans rfl
 have hcz31_1 : w24.cell? ⟨gb107,1,none⟩ = some (.slice A0_1 l0_1.length c0_1):=(blk_cell BK107.out 1).trans rfl
 have hcz31_2 : w24.cell? ⟨gb107,2,none⟩ = some (.slice A0_2 l0_2.length c0_2):=(blk_cell BK107.out 2).trans rfl
 have hfz31_0:=blk_frozen BK107.out 0
 have hfz31_1:=blk_frozen BK107.out 1
 have hfz31_2:=blk_frozen BK107.out 2
 try go_wp2_with (first|((with_reducible refine gate_callee (f:=13) rfl ?_);refine goesL_ (some 29) rfl rfl Tryz.func13 (by kernel_rfl) rfl #[.agg #[.slice Ao27 t109.length co27,.slice Ao26 t112.length co26,.slice Ao25 t115.length co25]] rfl eA ?_;(with_reducible refine (legend_Print.calls _ _ t109 _ _ t112 _ _ t115 t118 t119 _ ?side1 ?side2 ?side3 ?side4 ?side5 ?side6 ?side7 A10.out).mono ?_);(case side1 => refine (Kd.R_reads' (e:=23) (base:=w.heap.size) (ok:=fun k_ => ((True ∧ some k_ ≠ (.slice Ao26 t112.length co26 : Value).ownBlock) ∧ some k_ ≠ (.slice Ao25 t115.length co25 : Value).ownBlock)) (n:=t109.length) (c:=co27) ?_).2.2;exact (by (with_reducible repeat (first|apply Kd.R_alloc|apply Kd.R_drewN|apply Kd.R_drew));exact (Kd.R_mono (RF gb107 2 (RF gb107 1 (RF gb107 0 (Kd.R_types HO111.out BK107.out (by decide)) (.slice Ao27 t109.length co27)) (.slice Ao26 t112.length co26)) (.slice Ao25 t115.length co25)) (fun _ h_ => h_.1))));(case side2 => exact (Kd.R_reads' HO111.out).2.1);(case side3 => refine (Kd.R_reads' (e:=23) (base:=w.heap.size) (ok:=fun k_ => ((True ∧ some k_ ≠ (.slice Ao27 t109.length co27 : Value).ownBlock) ∧ some k_ ≠ (.slice Ao25 t115.length co25 : Value).ownBlock)) (n:=t112.length) (c:=co26) ?_).2.2;exact (by (with_reducible repeat (first|apply Kd.R_alloc|apply Kd.R_drewN|apply Kd.R_drew));exact (Kd.R_mono (RF gb107 2 (RF gb107 1 (RF gb107 0 (Kd.R_types HO114.out BK107.out (by decide)) (.slice Ao27 t109.length co27)) (.slice Ao26 t112.length co26)) (.slice Ao25 t115.length co25)) (fun _ h_ => h_.1))));(case side4 => exact (Kd.R_reads' HO114.out).2.1);(case side5 => refine (Kd.R_reads' (e:=23) (base:=w.heap.size) (ok:=fun k_ => ((True ∧ some k_ ≠ (.slice Ao27 t109.length co27 : Value).ownBlock) ∧ some k_ ≠ (.slice Ao26 t112.length co26 : Value).ownBlock)) (n:=t115.length) (c:=co25) ?_).2.2;exact (by (with_reducible repeat (first|apply Kd.R_alloc|apply Kd.R_drewN|apply Kd.R_drew));exact (Kd.R_mono (RF gb107 2 (RF gb107 1 (RF gb107 0 (Kd.R_types HO117.out BK107.out (by decide)) (.slice Ao27 t109.length co27)) (.slice Ao26 t112.length co26)) (.slice Ao25 t115.length co25)) (fun _ h_ => h_.1))));(case side6 => exact (Kd.R_reads' HO117.out).2.1);(case side7 => exact MaxL.below HGMaxL.out bH);rintro e w32 ⟨rfl,hb⟩;refine ⟨_,rfl,?_⟩;replace HO111:=aq (Kd.R_below (by (with_reducible repeat (first|apply Kd.R_alloc|apply Kd.R_drewN|apply Kd.R_drew));exact (Kd.R_mono (RF gb107 2 (RF gb107 1 (RF gb107 0 (Kd.R_types HO111.out BK107.out (by decide)) (.slice Ao27 t109.length co27)) (.slice Ao26 t112.length co26)) (.slice Ao25 t115.length co25)) (fun _ h_ => h_.1))) hb);replace HO114:=aq (Kd.R_below (by (with_reducible repeat (first|apply Kd.R_alloc|apply Kd.R_drewN|apply Kd.R_drew));exact (Kd.R_mono (RF gb107 2 (RF gb107 1 (RF gb107 0 (Kd.R_types HO114.out BK107.out (by decide)) (.slice Ao27 t109.length co27)) (.slice Ao26 t112.length co26)) (.slice Ao25 t115.length co25)) (fun _ h_ => h_.1))) hb);replace HO117:=aq (Kd.R_below (by (with_reducible repeat (first|apply Kd.R_alloc|apply Kd.R_drewN|apply Kd.R_drew));exact (Kd.R_mono (RF gb107 2 (RF gb107 1 (RF gb107 0 (Kd.R_types HO117.out BK107.out (by decide)) (.slice Ao27 t109.length co27)) (.slice Ao26 t112.length co26)) (.slice Ao25 t115.length co25)) (fun _ h_ => h_.1))) hb);replace BK107:=aq (blk_below (g:=gb107) (o:=.cells #[.slice Ao27 t109.length co27,.slice Ao26 t112.length co26,.slice Ao25 t115.length co25] 34 (0,0)) (by refine KU ?_;refine blk_put (cs:=#[.slice Ao27 t109.length co27,.slice Ao26 t112.length co26,.slice A0_2 l0_2.length c0_2]) ?_ 2 _ rfl;refine KU ?_;refine blk_put (cs:=#[.slice Ao27 t109.length co27,.slice A0_1 l0_1.length c0_1,.slice A0_2 l0_2.length c0_2]) ?_ 1 _ rfl;refine KU ?_;refine blk_put (cs:=#[.slice A0_0 l0_0.length c0_0,.slice A0_1 l0_1.length c0_1,.slice A0_2 l0_2.length c0_2]) ?_ 0 _ rfl;refine KU ?_;exact BK107.out) hb);replace HB:=aq (below_step bH hb);(try clear hb);(try clear hb2);(try clear hk);(try clear hi);have hcz33_0 : w32.cell? ⟨gb107,0,none⟩ = some (.slice Ao27 t109.length co27):=(blk_cell BK107.out 0).trans rfl;have hcz33_1 : w32.cell? ⟨gb107,1,none⟩ = some (.slice Ao26 t112.length co26):=(blk_cell BK107.out 1).trans rfl;have hcz33_2 : w32.cell? ⟨gb107,2,none⟩ = some (.slice Ao25 t115.length co25):=(blk_cell BK107.out 2).trans rfl;have hfz33_0:=blk_frozen BK107.out 0;have hfz33_1:=blk_frozen BK107.out 1;have hfz33_2:=blk_frozen BK107.out 2)|((with_reducible refine gate_callee (f:=14) rfl ?_);refine goesL_ (some 34) rfl rfl Tryz.func14 (by kernel_rfl) rfl #[.agg #[.slice Ao27 t109.length co27,.slice Ao26 t112.length co26,.slice Ao25 t115.length co25]] rfl eA ?_;(with_reducible refine (sr30_Print.calls _ _ t109 _ _ t112 _ _ t115 t120 t121 _ ?side1 ?side2 ?side3 ?side4 ?side5 ?side6 A11.out).mono ?_);(case side1 => repeat (first|exact (Kd.R_reads' HO111.out).2.2|(with_reducible refine Kd.C_alloc ?_ _)|(with_reducible refine Kd.C_drewN ?_ _)|(with_reducible refine Kd.C_drew ?_)));(case side2 => exact (Kd.R_reads' HO111.out).2.1);(case side3 => repeat (first|exact (Kd.R_reads' HO114.out).2.2|(with_reducible refine Kd.C_alloc ?_ _)|(with_reducible refine Kd.C_drewN ?_ _)|(with_reducible refine Kd.C_drew ?_)));(case side4 => exact (Kd.R_reads' HO114.out).2.1);(case side5 => repeat (first|exact (Kd.R_reads' HO117.out).2.2|(with_reducible refine Kd.C_alloc ?_ _)|(with_reducible refine Kd.C_drewN ?_ _)|(with_reducible refine Kd.C_drew ?_)));(case side6 => exact (Kd.R_reads' HO117.out).2.1);rintro e w34 ⟨rfl,hb⟩;refine ⟨_,rfl,?_⟩;replace HO111:=RN HO111 hb;replace HO114:=RN HO114 hb;replace HO117:=RN HO117 hb;replace BK107:=KN BK107 hb;replace HB:=aq (below_step bH hb);(try clear hb);(try clear hb2);(try clear hk);(try clear hi))|((with_reducible refine gate_callee (f:=15) rfl ?_);refine goesL_ (some 39) rfl rfl Tryz.func15 (by kernel_rfl) rfl #[.string a1] rfl eA ?_;(with_reducible refine (legend_Parse.calls a1 t122 t125 t128 t131 t132 _ ?side1 A12.out).mono ?_);(case side1 => exact MaxL.below HGMaxL.out bH);rintro e w35 ⟨v123,v126,v129,rfl,ho0,ho1,ho2,hb⟩;refine ⟨_,rfl,?_⟩;have HO124:=aq (Kd.R_lower (Kd.R_new' (Kd.R_new' (Kd.R_new' ho0 (Kd.R_lt (RU HO111.out))) (Kd.R_lt (RU HO114.out))) (Kd.R_lt (RU HO117.out))) (below_size bH));have HO127:=aq (Kd.R_lower (Kd.R_new' (Kd.R_new' (Kd.R_new' ho1 (Kd.R_lt (RU HO111.out))) (Kd.R_lt (RU HO114.out))) (Kd.R_lt (RU HO117.out))) (below_size bH));have HO130:=aq (Kd.R_lower (Kd.R_new' (Kd.R_new' (Kd.R_new' ho2 (Kd.R_lt (RU HO111.out))) (Kd.R_lt (RU HO114.out))) (Kd.R_lt (RU HO117.out))) (below_size bH));replace HO111:=aq (Kd.R_mono (Kd.R_told (Kd.R_told (Kd.R_told (Kd.R_old (RU HO111.out) hb) (Kd.R_base ho0)) (Kd.R_base ho1)) (Kd.R_base ho2)) (fun _ h_ => h_.1));replace HO114:=aq (Kd.R_mono (Kd.R_told (Kd.R_told (Kd.R_told (Kd.R_old (RU HO114.out) hb) (Kd.R_base ho0)) (Kd.R_base ho1)) (Kd.R_base ho2)) (fun _ h_ => h_.1));replace HO117:=aq (Kd.R_mono (Kd.R_told (Kd.R_told (Kd.R_told (Kd.R_old (RU HO117.out) hb) (Kd.R_base ho0)) (Kd.R_base ho1)) (Kd.R_base ho2)) (fun _ h_ => h_.1));replace BK107:=KN BK107 hb;replace HB:=aq (below_step bH hb);(try clear hb);(try clear hb2);(try clear hk);(try clear hi);(try clear ho0);(try clear ho1);(try clear ho2))|((with_reducible refine gate_dst (N:=9) rfl ?_);refine box_event rfl (N:=9) rfl (cs:=#[.slice none 0 0,.slice none 0 0,.slice none 0 0]) (t:=34) gS ?_;intro gb133 hg w36 hbox hb;have BK133:=aq (hbox);have GE133:=aq ((GN hg : w.heap.size ≤ gb133));have NB107_133:=aq (NL hg BK107);have NB133_107:=aq (NG hg BK107);replace HO111:=RN HO111 hb;replace HO114:=RN HO114 hb;replace HO117:=RN HO117 hb;replace HO124:=RN HO124 hb;replace HO127:=RN HO127 hb;replace HO130:=RN HO130 hb;replace BK107:=KN BK107 hb;replace HB:=aq (below_step bH hb);clear hb hbox hg)|((with_reducible refine gate_dst (N:=10) rfl ?_);refine box_event rfl (N:=10) rfl (cs:=#[.int .i64 0,.int .i64 0]) (t:=40) gS ?_;intro gb134 hg w37 hbox hb;have BK134:=aq (hbox);have GE134:=aq ((GN hg : w.heap.size ≤ gb134));have NB107_134:=aq (NL hg BK107);have NB134_107:=aq (NG hg BK107);have NB133_134:=aq (NL hg BK133);have NB134_133:=aq (NG hg BK133);replace HO111:=RN HO111 hb;replace HO114:=RN HO114 hb;replace HO117:=RN HO117 hb;replace HO124:=RN HO124 hb;replace HO127:=RN HO127 hb;replace HO130:=RN HO130 hb;replace BK107:=KN BK107 hb;replace BK133:=KN BK133 hb;replace HB:=aq (below_step bH hb);clear hb hbox hg;obtain ⟨Ao38,co38,eo38⟩:=Kd.R_slice HO124.out;subst eo38;have hnb39:=NB133_107.out;have hnc39:=NB107_133.out;have hnb40:=NB133_134.out;have hnc40:=NB134_133.out;have hcz41_0 : w37.cell? ⟨gb133,0,none⟩ = some (.slice none 0 0):=(blk_cell BK133.out 0).trans rfl;have hcz41_1 : w37.cell? ⟨gb133,1,none⟩ = some (.slice none 0 0):=(blk_cell BK133.out 1).trans rfl;have hcz41_2 : w37.cell? ⟨gb133,2,none⟩ = some (.slice none 0 0):=(blk_cell BK133.out 2).trans rfl;have hfz41_0:=blk_frozen BK133.out 0;have hfz41_1:=blk_frozen BK133.out 1;have hfz41_2:=blk_frozen BK133.out 2;obtain ⟨Ao42,co42,eo42⟩:=Kd.R_slice HO127.out;subst eo42;obtain ⟨Ao43,co43,eo43⟩:=Kd.R_slice HO130.out;subst eo43;have hnb44:=NB134_107.out;have hnc44:=NB107_134.out;have hcz45_0 : w37.cell? ⟨gb134,0,none⟩ = some (.int .i64 0):=(blk_cell BK134.out 0).trans rfl;have hcz45_1 : w37.cell? ⟨gb134,1,none⟩ = some (.int .i64 0):=(blk_cell BK134.out 1).trans rfl;have hfz45_0:=blk_frozen BK134.out 0;have hfz45_1:=blk_frozen BK134.out 1)|((with_reducible refine gate_callee (f:=16) rfl ?_);refine goesL_ (some 44) rfl rfl Tryz.func16 (by kernel_rfl) rfl #[.string a1] rfl eA ?_;(with_reducible refine (sr30_Parse.calls a1 t135 t138 t141 t144 t145 _ A13.out).mono ?_);rintro e w46 ⟨v136,v139,v142,rfl,ho0,ho1,ho2,hb⟩;refine ⟨_,rfl,?_⟩;have HO137:=aq (Kd.R_lower (Kd.R_new' (Kd.R_new' (Kd.R_new' (Kd.R_new' (Kd.R_new' (Kd.R_new' ho0 (Kd.R_lt (by (with_reducible repeat (first|apply Kd.R_alloc|apply Kd.R_drewN|apply Kd.R_drew));exact (Kd.R_mono (Kd.R_mono (RF gb134 1 (RF gb134 0 (Kd.R_far (p:=⟨gb133,2,none⟩) (Kd.R_far (p:=⟨gb133,1,none⟩) (Kd.R_far (p:=⟨gb133,0,none⟩) (Kd.R_types (Kd.R_types HO111.out BK133.out (by decide)) BK134.out (by decide)) (fun _ hk => hk.1.2) (.slice Ao38 t122.length co38)) (fun _ hk => hk.1.2) (.slice Ao42 t125.length co42)) (fun _ hk => hk.1.2) (.slice Ao43 t128.length co43)) (.int .i64 t131)) (.int .i64 t132)) (fun _ h_ => h_.1)) (fun _ h_ => h_.1))))) (Kd.R_lt (by (with_reducible repeat (first|apply Kd.R_alloc|apply Kd.R_drewN|apply Kd.R_drew));exact (Kd.R_mono (Kd.R_mono (RF gb134 1 (RF gb134 0 (Kd.R_far (p:=⟨gb133,2,none⟩) (Kd.R_far (p:=⟨gb133,1,none⟩) (Kd.R_far (p:=⟨gb133,0,none⟩) (Kd.R_types (Kd.R_types HO114.out BK133.out (by decide)) BK134.out (by decide)) (fun _ hk => hk.1.2) (.slice Ao38 t122.length co38)) (fun _ hk => hk.1.2) (.slice Ao42 t125.length co42)) (fun _ hk => hk.1.2) (.slice Ao43 t128.length co43)) (.int .i64 t131)) (.int .i64 t132)) (fun _ h_ => h_.1)) (fun _ h_ => h_.1))))) (Kd.R_lt (by (with_reducible repeat (first|apply Kd.R_alloc|apply Kd.R_drewN|apply Kd.R_drew));exact (Kd.R_mono (Kd.R_mono (RF gb134 1 (RF gb134 0 (Kd.R_far (p:=⟨gb133,2,none⟩) (Kd.R_far (p:=⟨gb133,1,none⟩) (Kd.R_far (p:=⟨gb133,0,none⟩) (Kd.R_types (Kd.R_types HO117.out BK133.out (by decide)) BK134.out (by decide)) (fun _ hk => hk.1.2) (.slice Ao38 t122.length co38)) (fun _ hk => hk.1.2) (.slice Ao42 t125.length co42)) (fun _ hk => hk.1.2) (.slice Ao43 t128.length co43)) (.int .i64 t131)) (.int .i64 t132)) (fun _ h_ => h_.1)) (fun _ h_ => h_.1))))) (Kd.R_lt (by (with_reducible repeat (first|apply Kd.R_alloc|apply Kd.R_drewN|apply Kd.R_drew));exact (Kd.R_mono (Kd.R_mono (RF gb134 1 (RF gb134 0 (Kd.R_far (p:=⟨gb133,2,none⟩) (Kd.R_far (p:=⟨gb133,1,none⟩) (Kd.R_far (p:=⟨gb133,0,none⟩) (Kd.R_types (Kd.R_types HO124.out BK133.out (by decide)) BK134.out (by decide)) (fun _ hk => hk.1.2) (.slice Ao38 t122.length co38)) (fun _ hk => hk.1.2) (.slice Ao42 t125.length co42)) (fun _ hk => hk.1.2) (.slice Ao43 t128.length co43)) (.int .i64 t131)) (.int .i64 t132)) (fun _ h_ => h_.1)) (fun _ h_ => h_.1))))) (Kd.R_lt (by (with_reducible repeat (first|apply Kd.R_alloc|apply Kd.R_drewN|apply Kd.R_drew));exact (Kd.R_mono (Kd.R_mono (RF gb134 1 (RF gb134 0 (Kd.R_far (p:=⟨gb133,2,none⟩) (Kd.R_far (p:=⟨gb133,1,none⟩) (Kd.R_far (p:=⟨gb133,0,none⟩) (Kd.R_types (Kd.R_types HO127.out BK133.out (by decide)) BK134.out (by decide)) (fun _ hk => hk.1.2) (.slice Ao38 t122.length co38)) (fun _ hk => hk.1.2) (.slice Ao42 t125.length co42)) (fun _ hk => hk.1.2) (.slice Ao43 t128.length co43)) (.int .i64 t131)) (.int .i64 t132)) (fun _ h_ => h_.1)) (fun _ h_ => h_.1))))) (Kd.R_lt (by (with_reducible repeat (first|apply Kd.R_alloc|apply Kd.R_drewN|apply Kd.R_drew));exact (Kd.R_mono (Kd.R_mono (RF gb134 1 (RF gb134 0 (Kd.R_far (p:=⟨gb133,2,none⟩) (Kd.R_far (p:=⟨gb133,1,none⟩) (Kd.R_far (p:=⟨gb133,0,none⟩) (Kd.R_types (Kd.R_types HO130.out BK133.out (by decide)) BK134.out (by decide)) (fun _ hk => hk.1.2) (.slice Ao38 t122.length co38)) (fun _ hk => hk.1.2) (.slice Ao42 t125.length co42)) (fun _ hk => hk.1.2) (.slice Ao43 t128.length co43)) (.int .i64 t131)) (.int .i64 t132)) (fun _ h_ => h_.1)) (fun _ h_ => h_.1))))) (below_size bH));have HO140:=aq (Kd.R_lower (Kd.R_new' (Kd.R_new' (Kd.R_new' (Kd.R_new' (Kd.R_new' (Kd.R_new' ho1 (Kd.R_lt (by (with_reducible repeat (first|apply Kd.R_alloc|apply Kd.R_drewN|apply Kd.R_drew));exact (Kd.R_mono (Kd.R_mono (RF gb134 1 (RF gb134 0 (Kd.R_far (p:=⟨gb133,2,none⟩) (Kd.R_far (p:=⟨gb133,1,none⟩) (Kd.R_far (p:=⟨gb133,0,none⟩) (Kd.R_types (Kd.R_types HO111.out BK133.out (by decide)) BK134.out (by decide)) (fun _ hk => hk.1.2) (.slice Ao38 t122.length co38)) (fun _ hk => hk.1.2) (.slice Ao42 t125.length co42)) (fun _ hk => hk.1.2) (.slice Ao43 t128.length co43)) (.int .i64 t131)) (.int .i64 t132)) (fun _ h_ => h_.1)) (fun _ h_ => h_.1))))) (Kd.R_lt (by (with_reducible repeat (first|apply Kd.R_alloc|apply Kd.R_drewN|apply Kd.R_drew));exact (Kd.R_mono (Kd.R_mono (RF gb134 1 (RF gb134 0 (Kd.R_far (p:=⟨gb133,2,none⟩) (Kd.R_far (p:=⟨gb133,1,none⟩) (Kd.R_far (p:=⟨gb133,0,none⟩) (Kd.R_types (Kd.R_types HO114.out BK133.out (by decide)) BK134.out (by decide)) (fun _ hk => hk.1.2) (.slice Ao38 t122.length co38)) (fun _ hk => hk.1.2) (.slice Ao42 t125.length co42)) (fun _ hk => hk.1.2) (.slice Ao43 t128.length co43)) (.int .i64 t131)) (.int .i64 t132)) (fun _ h_ => h_.1)) (fun _ h_ => h_.1))))) (Kd.R_lt (by (with_reducible repeat (first|apply Kd.R_alloc|apply Kd.R_drewN|apply Kd.R_drew));exact (Kd.R_mono (Kd.R_mono (RF gb134 1 (RF gb134 0 (Kd.R_far (p:=⟨gb133,2,none⟩) (Kd.R_far (p:=⟨gb133,1,none⟩) (Kd.R_far (p:=⟨gb133,0,none⟩) (Kd.R_types (Kd.R_types HO117.out BK133.out (by decide)) BK134.out (by decide)) (fun _ hk => hk.1.2) (.slice Ao38 t122.length co38)) (fun _ hk => hk.1.2) (.slice Ao42 t125.length co42)) (fun _ hk => hk.1.2) (.slice Ao43 t128.length co43)) (.int .i64 t131)) (.int .i64 t132)) (fun _ h_ => h_.1)) (fun _ h_ => h_.1))))) (Kd.R_lt (by (with_reducible repeat (first|apply Kd.R_alloc|apply Kd.R_drewN|apply Kd.R_drew));exact (Kd.R_mono (Kd.R_mono (RF gb134 1 (RF gb134 0 (Kd.R_far (p:=⟨gb133,2,none⟩) (Kd.R_far (p:=⟨gb133,1,none⟩) (Kd.R_far (p:=⟨gb133,0,none⟩) (Kd.R_types (Kd.R_types HO124.out BK133.out (by decide)) BK134.out (by decide)) (fun _ hk => hk.1.2) (.slice Ao38 t122.length co38)) (fun _ hk => hk.1.2) (.slice Ao42 t125.length co42)) (fun _ hk => hk.1.2) (.slice Ao43 t128.length co43)) (.int .i64 t131)) (.int .i64 t132)) (fun _ h_ => h_.1)) (fun _ h_ => h_.1))))) (Kd.R_lt (by (with_reducible repeat (first|apply Kd.R_alloc|apply Kd.R_drewN|apply Kd.R_drew));exact (Kd.R_mono (Kd.R_mono (RF gb134 1 (RF gb134 0 (Kd.R_far (p:=⟨gb133,2,none⟩) (Kd.R_far (p:=⟨gb133,1,none⟩) (Kd.R_far (p:=⟨gb133,0,none⟩) (Kd.R_types (Kd.R_types HO127.out BK133.out (by decide)) BK134.out (by decide)) (fun _ hk => hk.1.2) (.slice Ao38 t122.length co38)) (fun _ hk => hk.1.2) (.slice Ao42 t125.length co42)) (fun _ hk => hk.1.2) (.slice Ao43 t128.length co43)) (.int .i64 t131)) (.int .i64 t132)) (fun _ h_ => h_.1)) (fun _ h_ => h_.1))))) (Kd.R_lt (by (with_reducible repeat (first|apply Kd.R_alloc|apply Kd.R_drewN|apply Kd.R_drew));exact (Kd.R_mono (Kd.R_mono (RF gb134 1 (RF gb134 0 (Kd.R_far (p:=⟨gb133,2,none⟩) (Kd.R_far (p:=⟨gb133,1,none⟩) (Kd.R_far (p:=⟨gb133,0,none⟩) (Kd.R_types (Kd.R_types HO130.out BK133.out (by decide)) BK134.out (by decide)) (fun _ hk => hk.1.2) (.slice Ao38 t122.length co38)) (fun _ hk => hk.1.2) (.slice Ao42 t125.length co42)) (fun _ hk => hk.1.2) (.slice Ao43 t128.length co43)) (.int .i64 t131)) (.int .i64 t132)) (fun _ h_ => h_.1)) (fun _ h_ => h_.1))))) (below_size bH));have HO143:=aq (Kd.R_lower (Kd.R_new' (Kd.R_new' (Kd.R_new' (Kd.R_new' (Kd.R_new' (Kd.R_new' ho2 (Kd.R_lt (by (with_reducible repeat (first|apply Kd.R_alloc|apply Kd.R_drewN|apply Kd.R_drew));exact (Kd.R_mono (Kd.R_mono (RF gb134 1 (RF gb134 0 (Kd.R_far (p:=⟨gb133,2,none⟩) (Kd.R_far (p:=⟨gb133,1,none⟩) (Kd.R_far (p:=⟨gb133,0,none⟩) (Kd.R_types (Kd.R_types HO111.out BK133.out (by decide)) BK134.out (by decide)) (fun _ hk => hk.1.2) (.slice Ao38 t122.length co38)) (fun _ hk => hk.1.2) (.slice Ao42 t125.length co42)) (fun _ hk => hk.1.2) (.slice Ao43 t128.length co43)) (.int .i64 t131)) (.int .i64 t132)) (fun _ h_ => h_.1)) (fun _ h_ => h_.1))))) (Kd.R_lt (by (with_reducible repeat (first|apply Kd.R_alloc|apply Kd.R_drewN|apply Kd.R_drew));exact (Kd.R_mono (Kd.R_mono (RF gb134 1 (RF gb134 0 (Kd.R_far (p:=⟨gb133,2,none⟩) (Kd.R_far (p:=⟨gb133,1,none⟩) (Kd.R_far (p:=⟨gb133,0,none⟩) (Kd.R_types (Kd.R_types HO114.out BK133.out (by decide)) BK134.out (by decide)) (fun _ hk => hk.1.2) (.slice Ao38 t122.length co38)) (fun _ hk => hk.1.2) (.slice Ao42 t125.length co42)) (fun _ hk => hk.1.2) (.slice Ao43 t128.length co43)) (.int .i64 t131)) (.int .i64 t132)) (fun _ h_ => h_.1)) (fun _ h_ => h_.1))))) (Kd.R_lt (by (with_reducible repeat (first|apply Kd.R_alloc|apply Kd.R_drewN|apply Kd.R_drew));exact (Kd.R_mono (Kd.R_mono (RF gb134 1 (RF gb134 0 (Kd.R_far (p:=⟨gb133,2,none⟩) (Kd.R_far (p:=⟨gb133,1,none⟩) (Kd.R_far (p:=⟨gb133,0,none⟩) (Kd.R_types (Kd.R_types HO117.out BK133.out (by decide)) BK134.out (by decide)) (fun _ hk => hk.1.2) (.slice Ao38 t122.length co38)) (fun _ hk => hk.1.2) (.slice Ao42 t125.length co42)) (fun _ hk => hk.1.2) (.slice Ao43 t128.length co43)) (.int .i64 t131)) (.int .i64 t132)) (fun _ h_ => h_.1)) (fun _ h_ => h_.1))))) (Kd.R_lt (by (with_reducible repeat (first|apply Kd.R_alloc|apply Kd.R_drewN|apply Kd.R_drew));exact (Kd.R_mono (Kd.R_mono (RF gb134 1 (RF gb134 0 (Kd.R_far (p:=⟨gb133,2,none⟩) (Kd.R_far (p:=⟨gb133,1,none⟩) (Kd.R_far (p:=⟨gb133,0,none⟩) (Kd.R_types (Kd.R_types HO124.out BK133.out (by decide)) BK134.out (by decide)) (fun _ hk => hk.1.2) (.slice Ao38 t122.length co38)) (fun _ hk => hk.1.2) (.slice Ao42 t125.length co42)) (fun _ hk => hk.1.2) (.slice Ao43 t128.length co43)) (.int .i64 t131)) (.int .i64 t132)) (fun _ h_ => h_.1)) (fun _ h_ => h_.1))))) (Kd.R_lt (by (with_reducible repeat (first|apply Kd.R_alloc|apply Kd.R_drewN|apply Kd.R_drew));exact (Kd.R_mono (Kd.R_mono (RF gb134 1 (RF gb134 0 (Kd.R_far (p:=⟨gb133,2,none⟩) (Kd.R_far (p:=⟨gb133,1,none⟩) (Kd.R_far (p:=⟨gb133,0,none⟩) (Kd.R_types (Kd.R_types HO127.out BK133.out (by decide)) BK134.out (by decide)) (fun _ hk => hk.1.2) (.slice Ao38 t122.length co38)) (fun _ hk => hk.1.2) (.slice Ao42 t125.length co42)) (fun _ hk => hk.1.2) (.slice Ao43 t128.length co43)) (.int .i64 t131)) (.int .i64 t132)) (fun _ h_ => h_.1)) (fun _ h_ => h_.1))))) (Kd.R_lt (by (with_reducible repeat (first|apply Kd.R_alloc|apply Kd.R_drewN|apply Kd.R_drew));exact (Kd.R_mono (Kd.R_mono (RF gb134 1 (RF gb134 0 (Kd.R_far (p:=⟨gb133,2,none⟩) (Kd.R_far (p:=⟨gb133,1,none⟩) (Kd.R_far (p:=⟨gb133,0,none⟩) (Kd.R_types (Kd.R_types HO130.out BK133.out (by decide)) BK134.out (by decide)) (fun _ hk => hk.1.2) (.slice Ao38 t122.length co38)) (fun _ hk => hk.1.2) (.slice Ao42 t125.length co42)) (fun _ hk => hk.1.2) (.slice Ao43 t128.length co43)) (.int .i64 t131)) (.int .i64 t132)) (fun _ h_ => h_.1)) (fun _ h_ => h_.1))))) (below_size bH));replace HO111:=aq (Kd.R_mono (Kd.R_told (Kd.R_told (Kd.R_told (Kd.R_old (by (with_reducible repeat (first|apply Kd.R_alloc|apply Kd.R_drewN|apply Kd.R_drew));exact (Kd.R_mono (Kd.R_mono (RF gb134 1 (RF gb134 0 (Kd.R_far (p:=⟨gb133,2,none⟩) (Kd.R_far (p:=⟨gb133,1,none⟩) (Kd.R_far (p:=⟨gb133,0,none⟩) (Kd.R_types (Kd.R_types HO111.out BK133.out (by decide)) BK134.out (by decide)) (fun _ hk => hk.1.2) (.slice Ao38 t122.length co38)) (fun _ hk => hk.1.2) (.slice Ao42 t125.length co42)) (fun _ hk => hk.1.2) (.slice Ao43 t128.length co43)) (.int .i64 t131)) (.int .i64 t132)) (fun _ h_ => h_.1)) (fun _ h_ => h_.1))) hb) (Kd.R_base ho0)) (Kd.R_base ho1)) (Kd.R_base ho2)) (fun _ h_ => h_.1));replace HO114:=aq (Kd.R_mono (Kd.R_told (Kd.R_told (Kd.R_told (Kd.R_old (by (with_reducible repeat (first|apply Kd.R_alloc|apply Kd.R_drewN|apply Kd.R_drew));exact (Kd.R_mono (Kd.R_mono (RF gb134 1 (RF gb134 0 (Kd.R_far (p:=⟨gb133,2,none⟩) (Kd.R_far (p:=⟨gb133,1,none⟩) (Kd.R_far (p:=⟨gb133,0,none⟩) (Kd.R_types (Kd.R_types HO114.out BK133.out (by decide)) BK134.out (by decide)) (fun _ hk => hk.1.2) (.slice Ao38 t122.length co38)) (fun _ hk => hk.1.2) (.slice Ao42 t125.length co42)) (fun _ hk => hk.1.2) (.slice Ao43 t128.length co43)) (.int .i64 t131)) (.int .i64 t132)) (fun _ h_ => h_.1)) (fun _ h_ => h_.1))) hb) (Kd.R_base ho0)) (Kd.R_base ho1)) (Kd.R_base ho2)) (fun _ h_ => h_.1));replace HO117:=aq (Kd.R_mono (Kd.R_told (Kd.R_told (Kd.R_told (Kd.R_old (by (with_reducible repeat (first|apply Kd.R_alloc|apply Kd.R_drewN|apply Kd.R_drew));exact (Kd.R_mono (Kd.R_mono (RF gb134 1 (RF gb134 0 (Kd.R_far (p:=⟨gb133,2,none⟩) (Kd.R_far (p:=⟨gb133,1,none⟩) (Kd.R_far (p:=⟨gb133,0,none⟩) (Kd.R_types (Kd.R_types HO117.out BK133.out (by decide)) BK134.out (by decide)) (fun _ hk => hk.1.2) (.slice Ao38 t122.length co38)) (fun _ hk => hk.1.2) (.slice Ao42 t125.length co42)) (fun _ hk => hk.1.2) (.slice Ao43 t128.length co43)) (.int .i64 t131)) (.int .i64 t132)) (fun _ h_ => h_.1)) (fun _ h_ => h_.1))) hb) (Kd.R_base ho0)) (Kd.R_base ho1)) (Kd.R_base ho2)) (fun _ h_ => h_.1));replace HO124:=aq (Kd.R_mono (Kd.R_told (Kd.R_told (Kd.R_told (Kd.R_old (by (with_reducible repeat (first|apply Kd.R_alloc|apply Kd.R_drewN|apply Kd.R_drew));exact (Kd.R_mono (Kd.R_mono (RF gb134 1 (RF gb134 0 (Kd.R_far (p:=⟨gb133,2,none⟩) (Kd.R_far (p:=⟨gb133,1,none⟩) (Kd.R_far (p:=⟨gb133,0,none⟩) (Kd.R_types (Kd.R_types HO124.out BK133.out (by decide)) BK134.out (by decide)) (fun _ hk => hk.1.2) (.slice Ao38 t122.length co38)) (fun _ hk => hk.1.2) (.slice Ao42 t125.length co42)) (fun _ hk => hk.1.2) (.slice Ao43 t128.length co43)) (.int .i64 t131)) (.int .i64 t132)) (fun _ h_ => h_.1)) (fun _ h_ => h_.1))) hb) (Kd.R_base ho0)) (Kd.R_base ho1)) (Kd.R_base ho2)) (fun _ h_ => h_.1));replace HO127:=aq (Kd.R_mono (Kd.R_told (Kd.R_told (Kd.R_told (Kd.R_old (by (with_reducible repeat (first|apply Kd.R_alloc|apply Kd.R_drewN|apply Kd.R_drew));exact (Kd.R_mono (Kd.R_mono (RF gb134 1 (RF gb134 0 (Kd.R_far (p:=⟨gb133,2,none⟩) (Kd.R_far (p:=⟨gb133,1,none⟩) (Kd.R_far (p:=⟨gb133,0,none⟩) (Kd.R_types (Kd.R_types HO127.out BK133.out (by decide)) BK134.out (by decide)) (fun _ hk => hk.1.2) (.slice Ao38 t122.length co38)) (fun _ hk => hk.1.2) (.slice Ao42 t125.length co42)) (fun _ hk => hk.1.2) (.slice Ao43 t128.length co43)) (.int .i64 t131)) (.int .i64 t132)) (fun _ h_ => h_.1)) (fun _ h_ => h_.1))) hb) (Kd.R_base ho0)) (Kd.R_base ho1)) (Kd.R_base ho2)) (fun _ h_ => h_.1));replace HO130:=aq (Kd.R_mono (Kd.R_told (Kd.R_told (Kd.R_told (Kd.R_old (by (with_reducible repeat (first|apply Kd.R_alloc|apply Kd.R_drewN|apply Kd.R_drew));exact (Kd.R_mono (Kd.R_mono (RF gb134 1 (RF gb134 0 (Kd.R_far (p:=⟨gb133,2,none⟩) (Kd.R_far (p:=⟨gb133,1,none⟩) (Kd.R_far (p:=⟨gb133,0,none⟩) (Kd.R_types (Kd.R_types HO130.out BK133.out (by decide)) BK134.out (by decide)) (fun _ hk => hk.1.2) (.slice Ao38 t122.length co38)) (fun _ hk => hk.1.2) (.slice Ao42 t125.length co42)) (fun _ hk => hk.1.2) (.slice Ao43 t128.length co43)) (.int .i64 t131)) (.int .i64 t132)) (fun _ h_ => h_.1)) (fun _ h_ => h_.1))) hb) (Kd.R_base ho0)) (Kd.R_base ho1)) (Kd.R_base ho2)) (fun _ h_ => h_.1));replace BK107:=aq (blk_below (g:=gb107) (o:=.cells #[.slice Ao27 t109.length co27,.slice Ao26 t112.length co26,.slice Ao25 t115.length co25] 34 (0,0)) (by refine KU ?_;refine blk_far ?_ NB107_134.out _;refine KU ?_;refine blk_far ?_ NB107_134.out _;refine KU ?_;refine blk_far ?_ NB107_133.out _;refine KU ?_;refine blk_far ?_ NB107_133.out _;refine KU ?_;refine blk_far ?_ NB107_133.out _;refine KU ?_;exact BK107.out) hb);replace BK133:=aq (blk_below (g:=gb133) (o:=.cells #[.slice Ao38 t122.length co38,.slice Ao42 t125.length co42,.slice Ao43 t128.length co43] 34 (0,0)) (by refine KU ?_;refine blk_far ?_ NB133_134.out _;refine KU ?_;refine blk_far ?_ NB133_134.out _;refine KU ?_;refine blk_put (cs:=#[.slice Ao38 t122.length co38,.slice Ao42 t125.length co42,.slice none 0 0]) ?_ 2 _ rfl;refine KU ?_;refine blk_put (cs:=#[.slice Ao38 t122.length co38,.slice none 0 0,.slice none 0 0]) ?_ 1 _ rfl;refine KU ?_;refine blk_put (cs:=#[.slice none 0 0,.slice none 0 0,.slice none 0 0]) ?_ 0 _ rfl;refine KU ?_;exact BK133.out) hb);replace BK134:=aq (blk_below (g:=gb134) (o:=.cells #[.int .i64 t131,.int .i64 t132] 40 (0,0)) (by refine KU ?_;refine blk_put (cs:=#[.int .i64 t131,.int .i64 0]) ?_ 1 _ rfl;refine KU ?_;refine blk_put (cs:=#[.int .i64 0,.int .i64 0]) ?_ 0 _ rfl;refine KU ?_;refine blk_far ?_ NB134_133.out _;refine KU ?_;refine blk_far ?_ NB134_133.out _;refine KU ?_;refine blk_far ?_ NB134_133.out _;refine KU ?_;exact BK134.out) hb);replace HB:=aq (below_step bH hb);(try clear hb);(try clear hb2);(try clear hk);(try clear hi);(try clear ho0);(try clear ho1);(try clear ho2))|((with_reducible refine gate_dst (N:=11) rfl ?_);refine box_event rfl (N:=11) rfl (cs:=#[.slice none 0 0,.slice none 0 0,.slice none 0 0]) (t:=34) gS ?_;intro gb146 hg w47 hbox hb;have BK146:=aq (hbox);have GE146:=aq ((GN hg : w.heap.size ≤ gb146));have NB107_146:=aq (NL hg BK107);have NB146_107:=aq (NG hg BK107);have NB133_146:=aq (NL hg BK133);have NB146_133:=aq (NG hg BK133);have NB134_146:=aq (NL hg BK134);have NB146_134:=aq (NG hg BK134);replace HO111:=RN HO111 hb;replace HO114:=RN HO114 hb;replace HO117:=RN HO117 hb;replace HO124:=RN HO124 hb;replace HO127:=RN HO127 hb;replace HO130:=RN HO130 hb;replace HO137:=RN HO137 hb;replace HO140:=RN HO140 hb;replace HO143:=RN HO143 hb;replace BK107:=KN BK107 hb;replace BK133:=KN BK133 hb;replace BK134:=KN BK134 hb;replace HB:=aq (below_step bH hb);clear hb hbox hg)|((with_reducible refine gate_dst (N:=12) rfl ?_);refine box_event rfl (N:=12) rfl (cs:=#[.int .i64 0,.int .i64 0]) (t:=40) gS ?_;intro gb147 hg w48 hbox hb;have BK147:=aq (hbox);have GE147:=aq ((GN hg : w.heap.size ≤ gb147));have NB107_147:=aq (NL hg BK107);have NB147_107:=aq (NG hg BK107);have NB133_147:=aq (NL hg BK133);have NB147_133:=aq (NG hg BK133);have NB134_147:=aq (NL hg BK134);have NB147_134:=aq (NG hg BK134);have NB146_147:=aq (NL hg BK146);have NB147_146:=aq (NG hg BK146);replace HO111:=RN HO111 hb;replace HO114:=RN HO114 hb;replace HO117:=RN HO117 hb;replace HO124:=RN HO124 hb;replace HO127:=RN HO127 hb;replace HO130:=RN HO130 hb;replace HO137:=RN HO137 hb;replace HO140:=RN HO140 hb;replace HO143:=RN HO143 hb;replace BK107:=KN BK107 hb;replace BK133:=KN BK133 hb;replace BK134:=KN BK134 hb;replace BK146:=KN BK146 hb;replace HB:=aq (below_step bH hb);clear hb hbox hg;obtain ⟨Ao49,co49,eo49⟩:=Kd.R_slice HO137.out;subst eo49;have hnb50:=NB146_107.out;have hnc50:=NB107_146.out;have hnb51:=NB146_133.out;have hnc51:=NB133_146.out;have hnb52:=NB146_134.out;have hnc52:=NB134_146.out;have hnb53:=NB146_147.out;have hnc53:=NB147_146.out;have hcz54_0 : w48.cell? ⟨gb146,0,none⟩ = some (.slice none 0 0):=(blk_cell BK146.out 0).trans rfl;have hcz54_1 : w48.cell? ⟨gb146,1,none⟩ = some (.slice none 0 0):=(blk_cell BK146.out 1).trans rfl;have hcz54_2 : w48.cell? ⟨gb146,2,none⟩ = some (.slice none 0 0):=(blk_cell BK146.out 2).trans rfl;have hfz54_0:=blk_frozen BK146.out 0;have hfz54_1:=blk_frozen BK146.out 1;have hfz54_2:=blk_frozen BK146.out 2;obtain ⟨Ao55,co55,eo55⟩:=Kd.R_slice HO140.out;subst eo55;obtain ⟨Ao56,co56,eo56⟩:=Kd.R_slice HO143.out;subst eo56;have hnb57:=NB147_107.out;have hnc57:=NB107_147.out;have hnb58:=NB147_133.out;have hnc58:=NB133_147.out;have hnb59:=NB147_134.out;have hnc59:=NB134_147.out;have hcz60_0 : w48.cell? ⟨gb147,0,none⟩ = some (.int .i64 0):=(blk_cell BK147.out 0).trans rfl;have hcz60_1 : w48.cell? ⟨gb147,1,none⟩ = some (.int .i64 0):=(blk_cell BK147.out 1).trans rfl;have hfz60_0:=blk_frozen BK147.out 0;have hfz60_1:=blk_frozen BK147.out 1)|((with_reducible refine gate_callee (f:=6) rfl ?_);refine goesL_ (some 47) rfl rfl Tryz.func6 (by kernel_rfl) rfl #[] rfl eA ?_;(with_reducible refine (sl30_sure.calls  true _ ?side1 A14.out).mono ?_);(case side1 => exact MaxL.below HGMaxL.out bH);rintro e w61 ⟨rfl,hb⟩;refine ⟨_,rfl,?_⟩;replace HO111:=aq (Kd.R_below (by (with_reducible repeat (first|apply Kd.R_alloc|apply Kd.R_drewN|apply Kd.R_drew));exact (Kd.R_mono (Kd.R_mono (RF gb147 1 (RF gb147 0 (Kd.R_far (p:=⟨gb146,2,none⟩) (Kd.R_far (p:=⟨gb146,1,none⟩) (Kd.R_far (p:=⟨gb146,0,none⟩) (Kd.R_types (Kd.R_types HO111.out BK146.out (by decide)) BK147.out (by decide)) (fun _ hk => hk.1.2) (.slice Ao49 t135.length co49)) (fun _ hk => hk.1.2) (.slice Ao55 t138.length co55)) (fun _ hk => hk.1.2) (.slice Ao56 t141.length co56)) (.int .i64 t144)) (.int .i64 t145)) (fun _ h_ => h_.1)) (fun _ h_ => h_.1))) hb);replace HO114:=aq (Kd.R_below (by (with_reducible repeat (first|apply Kd.R_alloc|apply Kd.R_drewN|apply Kd.R_drew));exact (Kd.R_mono (Kd.R_mono (RF gb147 1 (RF gb147 0 (Kd.R_far (p:=⟨gb146,2,none⟩) (Kd.R_far (p:=⟨gb146,1,none⟩) (Kd.R_far (p:=⟨gb146,0,none⟩) (Kd.R_types (Kd.R_types HO114.out BK146.out (by decide)) BK147.out (by decide)) (fun _ hk => hk.1.2) (.slice Ao49 t135.length co49)) (fun _ hk => hk.1.2) (.slice Ao55 t138.length co55)) (fun _ hk => hk.1.2) (.slice Ao56 t141.length co56)) (.int .i64 t144)) (.int .i64 t145)) (fun _ h_ => h_.1)) (fun _ h_ => h_.1))) hb);replace HO117:=aq (Kd.R_below (by (with_reducible repeat (first|apply Kd.R_alloc|apply Kd.R_drewN|apply Kd.R_drew));exact (Kd.R_mono (Kd.R_mono (RF gb147 1 (RF gb147 0 (Kd.R_far (p:=⟨gb146,2,none⟩) (Kd.R_far (p:=⟨gb146,1,none⟩) (Kd.R_far (p:=⟨gb146,0,none⟩) (Kd.R_types (Kd.R_types HO117.out BK146.out (by decide)) BK147.out (by decide)) (fun _ hk => hk.1.2) (.slice Ao49 t135.length co49)) (fun _ hk => hk.1.2) (.slice Ao55 t138.length co55)) (fun _ hk => hk.1.2) (.slice Ao56 t141.length co56)) (.int .i64 t144)) (.int .i64 t145)) (fun _ h_ => h_.1)) (fun _ h_ => h_.1))) hb);replace HO124:=aq (Kd.R_below (by (with_reducible repeat (first|apply Kd.R_alloc|apply Kd.R_drewN|apply Kd.R_drew));exact (Kd.R_mono (Kd.R_mono (RF gb147 1 (RF gb147 0 (Kd.R_far (p:=⟨gb146,2,none⟩) (Kd.R_far (p:=⟨gb146,1,none⟩) (Kd.R_far (p:=⟨gb146,0,none⟩) (Kd.R_types (Kd.R_types HO124.out BK146.out (by decide)) BK147.out (by decide)) (fun _ hk => hk.1.2) (.slice Ao49 t135.length co49)) (fun _ hk => hk.1.2) (.slice Ao55 t138.length co55)) (fun _ hk => hk.1.2) (.slice Ao56 t141.length co56)) (.int .i64 t144)) (.int .i64 t145)) (fun _ h_ => h_.1)) (fun _ h_ => h_.1))) hb);replace HO127:=aq (Kd.R_below (by (with_reducible repeat (first|apply Kd.R_alloc|apply Kd.R_drewN|apply Kd.R_drew));exact (Kd.R_mono (Kd.R_mono (RF gb147 1 (RF gb147 0 (Kd.R_far (p:=⟨gb146,2,none⟩) (Kd.R_far (p:=⟨gb146,1,none⟩) (Kd.R_far (p:=⟨gb146,0,none⟩) (Kd.R_types (Kd.R_types HO127.out BK146.out (by decide)) BK147.out (by decide)) (fun _ hk => hk.1.2) (.slice Ao49 t135.length co49)) (fun _ hk => hk.1.2) (.slice Ao55 t138.length co55)) (fun _ hk => hk.1.2) (.slice Ao56 t141.length co56)) (.int .i64 t144)) (.int .i64 t145)) (fun _ h_ => h_.1)) (fun _ h_ => h_.1))) hb);replace HO130:=aq (Kd.R_below (by (with_reducible repeat (first|apply Kd.R_alloc|apply Kd.R_drewN|apply Kd.R_drew));exact (Kd.R_mono (Kd.R_mono (RF gb147 1 (RF gb147 0 (Kd.R_far (p:=⟨gb146,2,none⟩) (Kd.R_far (p:=⟨gb146,1,none⟩) (Kd.R_far (p:=⟨gb146,0,none⟩) (Kd.R_types (Kd.R_types HO130.out BK146.out (by decide)) BK147.out (by decide)) (fun _ hk => hk.1.2) (.slice Ao49 t135.length co49)) (fun _ hk => hk.1.2) (.slice Ao55 t138.length co55)) (fun _ hk => hk.1.2) (.slice Ao56 t141.length co56)) (.int .i64 t144)) (.int .i64 t145)) (fun _ h_ => h_.1)) (fun _ h_ => h_.1))) hb);replace HO137:=aq (Kd.R_below (by (with_reducible repeat (first|apply Kd.R_alloc|apply Kd.R_drewN|apply Kd.R_drew));exact (Kd.R_mono (Kd.R_mono (RF gb147 1 (RF gb147 0 (Kd.R_far (p:=⟨gb146,2,none⟩) (Kd.R_far (p:=⟨gb146,1,none⟩) (Kd.R_far (p:=⟨gb146,0,none⟩) (Kd.R_types (Kd.R_types HO137.out BK146.out (by decide)) BK147.out (by decide)) (fun _ hk => hk.1.2) (.slice Ao49 t135.length co49)) (fun _ hk => hk.1.2) (.slice Ao55 t138.length co55)) (fun _ hk => hk.1.2) (.slice Ao56 t141.length co56)) (.int .i64 t144)) (.int .i64 t145)) (fun _ h_ => h_.1)) (fun _ h_ => h_.1))) hb);replace HO140:=aq (Kd.R_below (by (with_reducible repeat (first|apply Kd.R_alloc|apply Kd.R_drewN|apply Kd.R_drew));exact (Kd.R_mono (Kd.R_mono (RF gb147 1 (RF gb147 0 (Kd.R_far (p:=⟨gb146,2,none⟩) (Kd.R_far (p:=⟨gb146,1,none⟩) (Kd.R_far (p:=⟨gb146,0,none⟩) (Kd.R_types (Kd.R_types HO140.out BK146.out (by decide)) BK147.out (by decide)) (fun _ hk => hk.1.2) (.slice Ao49 t135.length co49)) (fun _ hk => hk.1.2) (.slice Ao55 t138.length co55)) (fun _ hk => hk.1.2) (.slice Ao56 t141.length co56)) (.int .i64 t144)) (.int .i64 t145)) (fun _ h_ => h_.1)) (fun _ h_ => h_.1))) hb);replace HO143:=aq (Kd.R_below (by (with_reducible repeat (first|apply Kd.R_alloc|apply Kd.R_drewN|apply Kd.R_drew));exact (Kd.R_mono (Kd.R_mono (RF gb147 1 (RF gb147 0 (Kd.R_far (p:=⟨gb146,2,none⟩) (Kd.R_far (p:=⟨gb146,1,none⟩) (Kd.R_far (p:=⟨gb146,0,none⟩) (Kd.R_types (Kd.R_types HO143.out BK146.out (by decide)) BK147.out (by decide)) (fun _ hk => hk.1.2) (.slice Ao49 t135.length co49)) (fun _ hk => hk.1.2) (.slice Ao55 t138.length co55)) (fun _ hk => hk.1.2) (.slice Ao56 t141.length co56)) (.int .i64 t144)) (.int .i64 t145)) (fun _ h_ => h_.1)) (fun _ h_ => h_.1))) hb);replace BK107:=aq (blk_below (g:=gb107) (o:=.cells #[.slice Ao27 t109.length co27,.slice Ao26 t112.length co26,.slice Ao25 t115.length co25] 34 (0,0)) (by refine KU ?_;refine blk_far ?_ NB107_147.out _;refine KU ?_;refine blk_far ?_ NB107_147.out _;refine KU ?_;refine blk_far ?_ NB107_146.out _;refine KU ?_;refine blk_far ?_ NB107_146.out _;refine KU ?_;refine blk_far ?_ NB107_146.out _;refine KU ?_;exact BK107.out) hb);replace BK133:=aq (blk_below (g:=gb133) (o:=.cells #[.slice Ao38 t122.length co38,.slice Ao42 t125.length co42,.slice Ao43 t128.length co43] 34 (0,0)) (by refine KU ?_;refine blk_far ?_ NB133_147.out _;refine KU ?_;refine blk_far ?_ NB133_147.out _;refine KU ?_;refine blk_far ?_ NB133_146.out _;refine KU ?_;refine blk_far ?_ NB133_146.out _;refine KU ?_;refine blk_far ?_ NB133_146.out _;refine KU ?_;exact BK133.out) hb);replace BK134:=aq (blk_below (g:=gb134) (o:=.cells #[.int .i64 t131,.int .i64 t132] 40 (0,0)) (by refine KU ?_;refine blk_far ?_ NB134_147.out _;refine KU ?_;refine blk_far ?_ NB134_147.out _;refine KU ?_;refine blk_far ?_ NB134_146.out _;refine KU ?_;refine blk_far ?_ NB134_146.out _;refine KU ?_;refine blk_far ?_ NB134_146.out _;refine KU ?_;exact BK134.out) hb);replace BK146:=aq (blk_below (g:=gb146) (o:=.cells #[.slice Ao49 t135.length co49,.slice Ao55 t138.length co55,.slice Ao56 t141.length co56] 34 (0,0)) (by refine KU ?_;refine blk_far ?_ NB146_147.out _;refine KU ?_;refine blk_far ?_ NB146_147.out _;refine KU ?_;refine blk_put (cs:=#[.slice Ao49 t135.length co49,.slice Ao55 t138.length co55,.slice none 0 0]) ?_ 2 _ rfl;refine KU ?_;refine blk_put (cs:=#[.slice Ao49 t135.length co49,.slice none 0 0,.slice none 0 0]) ?_ 1 _ rfl;refine KU ?_;refine blk_put (cs:=#[.slice none 0 0,.slice none 0 0,.slice none 0 0]) ?_ 0 _ rfl;refine KU ?_;exact BK146.out) hb);replace BK147:=aq (blk_below (g:=gb147) (o:=.cells #[.int .i64 t144,.int .i64 t145] 40 (0,0)) (by refine KU ?_;refine blk_put (cs:=#[.int .i64 t144,.int .i64 0]) ?_ 1 _ rfl;refine KU ?_;refine blk_put (cs:=#[.int .i64 0,.int .i64 0]) ?_ 0 _ rfl;refine KU ?_;refine blk_far ?_ NB147_146.out _;refine KU ?_;refine blk_far ?_ NB147_146.out _;refine KU ?_;refine blk_far ?_ NB147_146.out _;refine KU ?_;exact BK147.out) hb);replace HB:=aq (below_step bH hb);(try clear hb);(try clear hb2);(try clear hk);(try clear hi);have hcz62_0 : w61.cell? ⟨gb133,0,none⟩ = some (.slice Ao38 t122.length co38):=(blk_cell BK133.out 0).trans rfl;have hcz62_1 : w61.cell? ⟨gb133,1,none⟩ = some (.slice Ao42 t125.length co42):=(blk_cell BK133.out 1).trans rfl;have hcz62_2 : w61.cell? ⟨gb133,2,none⟩ = some (.slice Ao43 t128.length co43):=(blk_cell BK133.out 2).trans rfl;have hfz62_0:=blk_frozen BK133.out 0;have hfz62_1:=blk_frozen BK133.out 1;have hfz62_2:=blk_frozen BK133.out 2;have hcz63_0 : w61.cell? ⟨gb146,0,none⟩ = some (.slice Ao49 t135.length co49):=(blk_cell BK146.out 0).trans rfl;have hcz63_1 : w61.cell? ⟨gb146,1,none⟩ = some (.slice Ao55 t138.length co55):=(blk_cell BK146.out 1).trans rfl;have hcz63_2 : w61.cell? ⟨gb146,2,none⟩ = some (.slice Ao56 t141.length co56):=(blk_cell BK146.out 2).trans rfl;have hfz63_0:=blk_frozen BK146.out 0;have hfz63_1:=blk_frozen BK146.out 1;have hfz63_2:=blk_frozen BK146.out 2)|(go_at_call 17;(with_reducible refine (sr29_Same.calls _ _ t122 _ _ t125 _ _ t128 _ _ t135 _ _ t138 _ _ t141 true _ ?side1 ?side2 ?side3 ?side4 ?side5 ?side6 ?side7 ?side8 ?side9 ?side10 ?side11 ?side12 A18.out).mono ?_);(case side1 => repeat (first|exact (Kd.R_reads' HO124.out).2.2|(with_reducible refine Kd.C_alloc ?_ _)|(with_reducible refine Kd.C_drewN ?_ _)|(with_reducible refine Kd.C_drew ?_)));(case side2 => exact (Kd.R_reads' HO124.out).2.1);(case side3 => repeat (first|exact (Kd.R_reads' HO127.out).2.2|(with_reducible refine Kd.C_alloc ?_ _)|(with_reducible refine Kd.C_drewN ?_ _)|(with_reducible refine Kd.C_drew ?_)));(case side4 => exact (Kd.R_reads' HO127.out).2.1);(case side5 => repeat (first|exact (Kd.R_reads' HO130.out).2.2|(with_reducible refine Kd.C_alloc ?_ _)|(with_reducible refine Kd.C_drewN ?_ _)|(with_reducible refine Kd.C_drew ?_)));(case side6 => exact (Kd.R_reads' HO130.out).2.1);(case side7 => repeat (first|exact (Kd.R_reads' HO137.out).2.2|(with_reducible refine Kd.C_alloc ?_ _)|(with_reducible refine Kd.C_drewN ?_ _)|(with_reducible refine Kd.C_drew ?_)));(case side8 => exact (Kd.R_reads' HO137.out).2.1);(case side9 => repeat (first|exact (Kd.R_reads' HO140.out).2.2|(with_reducible refine Kd.C_alloc ?_ _)|(with_reducible refine Kd.C_drewN ?_ _)|(with_reducible refine Kd.C_drew ?_)));(case side10 => exact (Kd.R_reads' HO140.out).2.1);(case side11 => repeat (first|exact (Kd.R_reads' HO143.out).2.2|(with_reducible refine Kd.C_alloc ?_ _)|(with_reducible refine Kd.C_drewN ?_ _)|(with_reducible refine Kd.C_drew ?_)));(case side12 => exact (Kd.R_reads' HO143.out).2.1);rintro e w64 ⟨rfl,hb⟩;replace HO111:=RN HO111 hb;replace HO114:=RN HO114 hb;replace HO117:=RN HO117 hb;replace HO124:=RN HO124 hb;replace HO127:=RN HO127 hb;replace HO130:=RN HO130 hb;replace HO137:=RN HO137 hb;replace HO140:=RN HO140 hb;replace HO143:=RN HO143 hb;replace BK107:=KN BK107 hb;replace BK133:=KN BK133 hb;replace BK134:=KN BK134 hb;replace BK146:=KN BK146 hb;replace BK147:=KN BK147 hb;replace HB:=aq (below_step bH hb);(try clear hb);(try clear hb2);(try clear hk);(try clear hi);have hcz65_0 : w64.cell? ⟨gb134,0,none⟩ = some (.int .i64 t131):=(blk_cell BK134.out 0).trans rfl;have hcz65_1 : w64.cell? ⟨gb134,1,none⟩ = some (.int .i64 t132):=(blk_cell BK134.out 1).trans rfl;have hfz65_0:=blk_frozen BK134.out 0;have hfz65_1:=blk_frozen BK134.out 1;have hcz66_0 : w64.cell? ⟨gb147,0,none⟩ = some (.int .i64 t144):=(blk_cell BK147.out 0).trans rfl;have hcz66_1 : w64.cell? ⟨gb147,1,none⟩ = some (.int .i64 t145):=(blk_cell BK147.out 1).trans rfl;have hfz66_0:=blk_frozen BK147.out 0;have hfz66_1:=blk_frozen BK147.out 1))
 go_ret
 exact ⟨eR,bH⟩
end Go.Proofs.YtaokkkolbifdpaaGreatDoor.PLegendTexts
end

section
namespace Go.Proofs.YtaokkkolbifdpaaGreatDoor.PLegendTexts
open Go.RowKit Go.Proofs.YtaokkkolbifdpaaGreatDoorW
open PrintWords PrintLast PrintMore Go.Proofs.YtaokkkolbifdpaaGreatDoor.Hand
attribute [local go_sem] max2_int min2_int max_two min_two max_three min_three max_four min_four
end Go.Proofs.YtaokkkolbifdpaaGreatDoor.PLegendTexts
end

section
namespace Go.Proofs.YtaokkkolbifdpaaGreatDoor.Pure
open Go.RowKit Go.Proofs.YtaokkkolbifdpaaGreatDoor.PLegendTexts Go.Proofs.YtaokkkolbifdpaaGreatDoor.Hand Go.Proofs.YtaokkkolbifdpaaGreatDoorW.PrintWords Go.Proofs.YtaokkkolbifdpaaGreatDoorW.PrintLast
def fewP (l : List S23) (n : Nat) : Prop := l.length ≤ n ∧ ∀ x ∈ l, okS x
theorem short_to (l : List S23) : ∀ (d i : Nat) (out : List S23), i + d = 31 → fewP out i → ∃ r, fewP r 31 ∧ Hand.Ev (fun k => sl30_short.l0 k l out (i : Int)) r
 | 0,i,out,hi,ho => by
  refine ⟨out,⟨by have:=ho.1;omega,ho.2⟩,?_⟩
  refine Hand.Ev.step (F:=fun k => sl30_short.j1 k l out (i : Int) false) (Hand.Ev.step (Hand.Ev.cst (F:=fun _ => some out) fun _ => rfl) fun k => ?_) fun k => ?_
  ·
   show sl30_short.j1 (k + 1) l out (i : Int) false = _
   rw [sl30_short.j1,if_neg (by decide)]
  ·
   show sl30_short.l0 (k + 1) l out (i : Int) = _
   rw [sl30_short.l0,decide_eq_false (by omega)]
   by_cases h : (i : Int) < (l.length : Int)
   ·
    rw [if_pos h]
   ·
    rw [if_neg h]
 | d + 1,i,out,hi,ho => by
  by_cases hlt : i < l.length
  ·
   by_cases h30 : i < 30
   ·
    have hw : wrap64 ((i : Int) + 1) = ((i + 1 : Nat) : Int):=wrap_succ i (by omega)
    have hol:=ho.1
    by_cases ha : ((l.getD i z23).f0.size : Int) < 120
    ·
     by_cases hb : ((l.getD i z23).f1.size : Int) < 120
     ·
      obtain ⟨r,hr,he⟩:=short_to l d (i + 1) (out ++ [l.getD i z23]) (by omega) ⟨by rw [List.length_append];exact Nat.succ_le_succ ho.1,fun x hx => by
       rcases List.mem_append.1 hx with hx|hx
       ·
        exact ho.2 x hx
       ·
        rw [List.mem_singleton.1 hx]
        exact ⟨by omega,by omega⟩⟩
      refine ⟨r,hr,Hand.Ev.step (F:=fun k => sl30_short.j1 k l out (i : Int) true) (Hand.Ev.step he fun k => ?_) fun k => ?_⟩
      ·
       show sl30_short.j1 (k + 1) l out (i : Int) true = _
       rw [sl30_short.j1,if_pos rfl,if_pos (by omega),if_pos (by omega),rdT_nat,if_pos ha,if_pos hb,if_pos (by omega),hw]
      ·
       show sl30_short.l0 (k + 1) l out (i : Int) = _
       rw [sl30_short.l0,if_pos (by omega),decide_eq_true (by omega)]
     ·
      obtain ⟨r,hr,he⟩:=short_to l d (i + 1) out (by omega) ⟨by omega,ho.2⟩
      refine ⟨r,hr,Hand.Ev.step (F:=fun k => sl30_short.j1 k l out (i : Int) true) (Hand.Ev.step he fun k => ?_) fun k => ?_⟩
      ·
       show sl30_short.j1 (k + 1) l out (i : Int) true = _
       rw [sl30_short.j1,if_pos rfl,if_pos (by omega),if_pos (by omega),rdT_nat,if_pos ha,if_neg hb,hw]
      ·
       show sl30_short.l0 (k + 1) l out (i : Int) = _
       rw [sl30_short.l0,if_pos (by omega),decide_eq_true (by omega)]
    ·
     obtain ⟨r,hr,he⟩:=short_to l d (i + 1) out (by omega) ⟨by omega,ho.2⟩
     refine ⟨r,hr,Hand.Ev.step (F:=fun k => sl30_short.j1 k l out (i : Int) true) (Hand.Ev.step he fun k => ?_) fun k => ?_⟩
     ·
      show sl30_short.j1 (k + 1) l out (i : Int) true = _
      rw [sl30_short.j1,if_pos rfl,if_pos (by omega),if_pos (by omega),rdT_nat,if_neg ha,hw]
     ·
      show sl30_short.l0 (k + 1) l out (i : Int) = _
      rw [sl30_short.l0,if_pos (by omega),decide_eq_true (by omega)]
   ·
    refine ⟨out,⟨by have:=ho.1;omega,ho.2⟩,?_⟩
    refine Hand.Ev.step (F:=fun k => sl30_short.j1 k l out (i : Int) false) (Hand.Ev.step (Hand.Ev.cst (F:=fun _ => some out) fun _ => rfl) fun k => ?_) fun k => ?_
    ·
     show sl30_short.j1 (k + 1) l out (i : Int) false = _
     rw [sl30_short.j1,if_neg (by decide)]
    ·
     show sl30_short.l0 (k + 1) l out (i : Int) = _
     rw [sl30_short.l0,if_pos (by omega),decide_eq_false (by omega)]
  ·
   refine ⟨out,⟨by have:=ho.1;omega,ho.2⟩,?_⟩
   refine Hand.Ev.step (F:=fun k => sl30_short.j1 k l out (i : Int) false) (Hand.Ev.step (Hand.Ev.cst (F:=fun _ => some out) fun _ => rfl) fun k => ?_) fun k => ?_
   ·
    show sl30_short.j1 (k + 1) l out (i : Int) false = _
    rw [sl30_short.j1,if_neg (by decide)]
   ·
    show sl30_short.l0 (k + 1) l out (i : Int) = _
    rw [sl30_short.l0,if_neg (by omega)]
theorem short_ev (l : List S23) : ∃ r, fewP r 31 ∧ Hand.Ev (fun k => sl30_short.f k l) r := short_to l 31 0 [] rfl ⟨Nat.zero_le _, fun x hx => by simp at hx⟩
theorem readsF_len : ∀ (ls : List (List UInt8)) (i : Nat) (m : L3) (n : Nat), m.1.length ≤ n ∧ m.2.1.length ≤ n ∧ m.2.2.length ≤ n → (readsF ls i m).1.1.length ≤ n + ls.length ∧ (readsF ls i m).1.2.1.length ≤ n + ls.length ∧ (readsF ls i m).1.2.2.length ≤ n + ls.length
 | [],i,m,n,h => by
  obtain ⟨a,b,c⟩:=h
  exact ⟨a,b,c⟩
 | x :: ls,i,m,n,h => by
  rw [readsF]
  split
  ·
   have ih:=readsF_len ls (i + 1) (putS m (readS x).1 (readS x).2.1) (n + 1) (by
    obtain ⟨a,b,c⟩:=h
    unfold putS
    split
    ·
     exact ⟨by simp;omega,by simp;omega,by simp;omega⟩
    ·
     split
     ·
      exact ⟨by simp;omega,by simp;omega,by simp;omega⟩
     ·
      split
      ·
       exact ⟨by simp;omega,by simp;omega,by simp;omega⟩
      ·
       exact ⟨by omega,by omega,by omega⟩)
   rw [List.length_cons]
   obtain ⟨a,b,c⟩:=ih
   exact ⟨by omega,by omega,by omega⟩
  ·
   exact ⟨Nat.zero_le _,Nat.zero_le _,Nat.zero_le _⟩
theorem parse_len (s : List UInt8) : (parseS s).1.1.length ≤ 1048576 ∧ (parseS s).1.2.1.length ≤ 1048576 ∧ (parseS s).1.2.2.length ≤ 1048576 := by
 unfold parseS
 split
 ·
  exact ⟨Nat.zero_le _,Nat.zero_le _,Nat.zero_le _⟩
 ·
  rename_i h
  have hb:=(lines_bound (Classical.byContradiction h)).1
  split
  ·
   exact ⟨Nat.zero_le _,Nat.zero_le _,Nat.zero_le _⟩
  ·
   split
   ·
    exact ⟨Nat.zero_le _,Nat.zero_le _,Nat.zero_le _⟩
   ·
    obtain ⟨a,b,c⟩:=readsF_len (linesL s).1 0 ([],[],[]) 0 ⟨Nat.le_refl _,Nat.le_refl _,Nat.le_refl _⟩
    exact ⟨by show (readsF (linesL s).1 0 ([],[],[])).1.1.length ≤ _;omega,by show (readsF (linesL s).1 0 ([],[],[])).1.2.1.length ≤ _;omega,by show (readsF (linesL s).1 0 ([],[],[])).1.2.2.length ≤ _;omega⟩
theorem LegendTexts (l0 l1 l2 : List S23) (s : ByteArray) : ∃ k, sl30_LegendTexts.f k l0 l1 l2 s = some true := by
 by_cases hs : (s.size : Int) > 9000
 ·
  refine ⟨0,?_⟩
  unfold sl30_LegendTexts.f sl30_sure.f
  rw [if_pos hs]
  rfl
 ·
  obtain ⟨x0,q0,K0,e0⟩:=short_ev l0
  obtain ⟨x1,q1,K1,e1⟩:=short_ev l1
  obtain ⟨x2,q2,K2,e2⟩:=short_ev l2
  obtain ⟨p0,p1,p2⟩:=parse_len (bl s)
  refine ⟨max (max K0 K1) K2,?_⟩
  generalize hk : max (max K0 K1) K2 = k
  have r0:=e0 k (by omega)
  have r1:=e1 k (by omega)
  have r2:=e2 k (by omega)
  dsimp only at r0 r1 r2
  have r3 : sr29_Same.f (parseS (bl s)).1.1 (parseS (bl s)).1.2.1 (parseS (bl s)).1.2.2 (parseS (bl s)).1.1 (parseS (bl s)).1.2.1 (parseS (bl s)).1.2.2 = some true:=by
   unfold sr29_Same.f
   rw [if_pos ⟨⟨rfl,rfl,rfl⟩,p0,p1,p2⟩]
  have hp : legend_Print.f x0 x1 x2 = some (lb (printS x0 x1 x2).1,(printS x0 x1 x2).2):=by
   have a0:=q0.1
   have a1:=q1.1
   have a2:=q2.1
   unfold legend_Print.f
   rw [if_pos ⟨by omega,shortQ_of q0.2,shortQ_of q1.2,shortQ_of q2.2⟩]
  have hq : legend_Parse.f s = some (parsedOut (parseS (bl s))):=by
   unfold legend_Parse.f
   rw [if_pos (by omega)]
  unfold sl30_LegendTexts.f sr30_Print.f sr30_Parse.f sl30_sure.f
  rw [if_neg hs,r0,Option.bind_some,r1,Option.bind_some,r2,Option.bind_some,hp,Option.bind_some,Option.bind_some,hq,Option.bind_some,Option.bind_some,Option.bind_some,if_pos rfl,if_pos rfl,if_pos rfl]
  unfold parsedOut
  dsimp only
  rw [r3,Option.bind_some,if_pos rfl]
  simp
end Go.Proofs.YtaokkkolbifdpaaGreatDoor.Pure
end

section
namespace Go.Proofs.YtaokkkolbifdpaaGreatDoor.Hand
open Go.ChangeShapes Go.WideShapes Go.ChangeAt Go.RowKit Go.Proofs.YtaokkkolbifdpaaGreatDoorW.PrintWords Go.Proofs.YtaokkkolbifdpaaGreatDoorW.PrintLast Go.Proofs.YtaokkkolbifdpaaGreatDoorW.PrintMore
section
variable {H : Type} {enc : TypeId × Value → H} {P : Program} {w : World} {base : Nat} {spare : Nat → Bool} {held : Bool}
end
end Go.Proofs.YtaokkkolbifdpaaGreatDoor.Hand
end

section
namespace Go.Proofs.YtaokkkolbifdpaaGreatDoor.Hand
open Go.ChangeShapes Go.WideShapes Go.ChangeAt Go.Joins Go.Deep Go.RowKit Go.Proofs.YtaokkkolbifdpaaGreatDoorW.PrintWords Go.Proofs.YtaokkkolbifdpaaGreatDoorW.PrintLast Go.Proofs.YtaokkkolbifdpaaGreatDoorW.PrintMore
namespace Op
theorem list_each {α : Type} {Q : Nat → α → Prop} : ∀ (n : Nat), (∀ i, i < n → ∃ a, Q i a) → ∃ l : List α, l.length = n ∧ ∀ i a, l[i]? = some a → Q i a
 | 0,_ => ⟨[],rfl,fun i a h => by simp at h⟩
 | n + 1,h => by
  obtain ⟨l,hl,hq⟩:=list_each n fun i hi => h i (by omega)
  obtain ⟨a,ha⟩:=h n (by omega)
  refine ⟨l ++ [a],by simp [hl],fun i b hb => ?_⟩
  by_cases hi : i < l.length
  ·
   rw [List.getElem?_append_left hi] at hb
   exact hq i b hb
  ·
   rw [List.getElem?_append_right (by omega)] at hb
   have h0 : i - l.length = 0:=by
    have:=(List.getElem?_eq_some_iff.1 hb).1
    simp at this
    omega
   rw [h0] at hb
   simp at hb
   have : i = n:=by omega
   rw [this,← hb]
   exact ha
theorem add_add (a : Addr) (i j : Nat) : (a.add i).add j = a.add (i + j) := by
 unfold Addr.add
 by_cases hi : i = 0
 ·
  subst hi;simp
 ·
  by_cases hj : j = 0
  ·
   subst hj;simp
  ·
   rw [if_neg hi,if_neg hj,if_neg (by omega),Nat.add_assoc]
theorem cells_each {w : World} {base n : Nat} {a : Addr} {cs : List Value} (h : w.cells? base a n = some cs) : cs.length = n ∧ ∀ j u, cs[j]? = some u → w.cell? (a.add j) = some u := by
 unfold World.cells? at h
 split at h
 ·
  have hl:=mapM_some_length h
  rw [List.length_range] at hl
  refine ⟨hl,fun j u hu => ?_⟩
  have hj:=(List.getElem?_eq_some_iff.1 hu).1
  have hg:=mapM_some_get h j j (by rw [List.getElem?_range (by omega)])
  rw [hg,hu]
 ·
  cases h
section
variable {H : Type} {enc : TypeId × Value → H} {P : Program} {w : World} {base : Nat} {spare : Nat → Bool} {held : Bool}
theorem weights_all {t : TypeId} : ∀ {l : List (DataW H)} {d : DataW H}, d ∈ l → ∀ n ∈ d.weights P t, n ∈ DataW.weightsAll P t l
 | a :: l,d,hd,n,hn => by
  simp only [DataW.weightsAll,List.mem_append]
  rcases List.mem_cons.1 hd with rfl|hd
  ·
   exact .inl hn
  ·
   exact .inr (weights_all hd n hn)
def Opens (enc : TypeId × Value → H) (P : Program) (w : World) (base : Nat) (spare : Nat → Bool) (held : Bool) {α : Type} (kd : Kd α) (Q : α → Prop) (t : TypeId) : Prop :=
 ∀ (n : Nat) (cs : List Value) (x : DataW H × List MemPlace),DataW.trod enc P w base spare held n t cs = some x → (∀ m ∈ x.1.weights P t,m ≤ reachBytes) → ∃ a,kd.K w a cs ∧ Q a
theorem opens_str {t : TypeId} (ht : P.underlying t = some .string) : Opens enc P w base spare held Kd.string (fun s => s.size ≤ 140737488351232) t := by
 intro n cs x h hw
 obtain ⟨s,rfl,rfl,_⟩:=DataW.trod_string ht h
 have h2:=hw s.data.toList.length (by simp [DataW.weights])
 rw [Array.length_toList] at h2
 exact ⟨s,rfl,h2⟩
theorem opens_slice {α : Type} {kd : Kd α} {Q : α → Prop} {t e : TypeId} (ht : P.underlying t = some (.slice e)) (hc : P.cellsOf e = kd.sz) (hB : 1 ≤ P.bytesOf e) (ho : Opens enc P w base spare held kd Q e) :
  Opens enc P w base spare held (Kd.slice e kd) (fun l => l.length ≤ 140737488351232 ∧ ∀ x ∈ l,Q x) t:=by
 intro fuel cs d hf hw
 rcases DataW.trod_slice ht hf with ⟨rfl,_⟩|⟨x,len,cap,elems,rest,n,_,rfl,hx,hb,hl,hm,hlen,hel,_,_⟩
 ·
  exact ⟨[],⟨none,0,rfl,Nat.le_refl _,⟨rfl,Nat.zero_le _,fun h => absurd h (Nat.lt_irrefl 0)⟩⟩,Nat.zero_le _,by simp⟩
 ·
  subst hx
  have hlw : len ≤ 140737488351232:=by
   have h1:=hw ((elems.map (·.1)).length * P.bytesOf e + (rest.map (·.1)).length * P.bytesOf e) (by simp [DataW.weights,ht,Nat.add_mul])
   rw [List.length_map,hlen] at h1
   have h2 : len * 1 ≤ len * P.bytesOf e:=Nat.mul_le_mul_left _ hB
   have h3 : reachBytes = 140737488351232:=rfl
   omega
  have each : ∀ i,i < len → ∃ y : α,Q y ∧ ∃ cs : List Value,cs.length = kd.sz ∧ kd.K w y cs ∧ ∀ j u,cs[j]? = some u → w.cell? (x.add (i * kd.sz + j)) = some u:=by
   intro i hi
   have h1:=hel i hi
   have hi2 : i < elems.length:=by omega
   rw [List.getElem?_eq_getElem hi2,hc,Option.bind_eq_some_iff] at h1
   obtain ⟨cs,h2,h3⟩:=h1
   obtain ⟨y,h4,h5⟩:=ho _ _ _ h3 (fun m hm => hw m (by
    simp only [DataW.weights,ht,List.mem_cons,List.mem_append]
    exact .inr (.inl (weights_all (List.mem_map_of_mem (List.getElem_mem hi2)) m hm))))
   obtain ⟨h6,h7⟩:=cells_each h2
   refine ⟨y,h5,cs,h6,h4,fun j z hz => ?_⟩
   have h8:=h7 j z hz
   rw [add_add] at h8
   exact h8
  obtain ⟨ls,hls,hq⟩:=list_each len each
  have hmx : len ≤ 9223372036854775807:=by omega
  refine ⟨ls,⟨some x,cap,by rw [hls],by rw [hls];exact hl,⟨rfl,by rw [hls];exact hmx,fun _ => ⟨x,rfl,fun j p hp => ?_⟩⟩⟩,by rw [hls];exact hlw,fun y hy => ?_⟩
  ·
   obtain ⟨_,cs,h1,h2,h3⟩:=hq j p hp
   exact ⟨cs,h1,h2,fun i u hu => h3 i u hu⟩
  ·
   obtain ⟨i,hi⟩:=List.getElem?_of_mem hy
   exact (hq i y hi).1
def Fields (enc : TypeId × Value → H) (P : Program) (w : World) (base : Nat) (spare : Nat → Bool) (held : Bool) {α : Type} (kd : Kd α) (Q : α → Prop) (fs : List Field) (o : Nat) : Prop :=
 ∀ (n : Nat) (cs : List Value) (xs : List (DataW H × List MemPlace)),cs.length = o + kd.sz → xs.length = fs.length →
  (∀ (i : Nat) (f : Field),fs[i]? = some f → DataW.trod enc P w base spare held n f.type ((cs.drop f.offset).take (P.cellsOf f.type)) = xs[i]?) →
  (∀ (i : Nat) (f : Field) (x : DataW H × List MemPlace),fs[i]? = some f → xs[i]? = some x → ∀ m ∈ x.1.weights P f.type,m ≤ reachBytes) → ∃ a,kd.K w a (cs.drop o) ∧ Q a
theorem fields_one {α : Type} {kd : Kd α} {Q : α → Prop} {f : Field} {o : Nat} (hoff : f.offset = o) (hc : P.cellsOf f.type = kd.sz) (ho : Opens enc P w base spare held kd Q f.type) : Fields enc P w base spare held kd Q [f] o := by
 intro n cs xs hl hx hf hw
 match xs,hx with
 | [y],_ =>
  have h:=hf 0 f rfl
  rw [hoff,hc,List.take_of_length_le (by rw [List.length_drop];omega)] at h
  exact ho _ _ _ h (hw 0 f y rfl rfl)
theorem fields_cons {α β : Type} {k1 : Kd α} {k2 : Kd β} {Q1 : α → Prop} {Q2 : β → Prop} {f : Field} {fs : List Field} {o : Nat} (hoff : f.offset = o) (hc : P.cellsOf f.type = k1.sz) (ho : Opens enc P w base spare held k1 Q1 f.type)
  (h2 : Fields enc P w base spare held k2 Q2 fs (o + k1.sz)) : Fields enc P w base spare held (Kd.pair k1 k2) (fun p => Q1 p.1 ∧ Q2 p.2) (f :: fs) o:=by
 intro n cs xs hl hx hf hw
 have hl' : cs.length = o + (k1.sz + k2.sz):=hl
 match xs,hx with
 | y :: ys,hx =>
  have h:=hf 0 f rfl
  rw [hoff,hc] at h
  obtain ⟨a,ha,qa⟩:=ho _ _ _ h (hw 0 f y rfl rfl)
  obtain ⟨b,hb,qb⟩:=h2 n cs ys (by omega) (by simpa using hx) (fun i g hg => by have:=hf (i + 1) g (by simpa using hg);simpa using this) (fun i g x hg hx => hw (i + 1) g x (by simpa using hg) (by simpa using hx))
  refine ⟨(a,b),⟨(cs.drop o).take k1.sz,cs.drop (o + k1.sz),?_,ha,hb⟩,qa,qb⟩
  rw [← List.drop_drop,List.take_append_drop]
theorem weights_fields : ∀ {fs : List Field} {xs : List (DataW H × List MemPlace)} {i : Nat} {f : Field} {x : DataW H × List MemPlace}, fs[i]? = some f → xs[i]? = some x → ∀ m ∈ x.1.weights P f.type, m ∈ DataW.weightsEach P (fs.map (·.type)) (xs.map (·.1))
 | [],_,i,f,x,hf,_,_,_ => by simp at hf
 | _ :: _,[],i,f,x,_,hx,_,_ => by simp at hx
 | g :: fs,y :: ys,0,f,x,hf,hx,m,hm => by
  simp at hf hx
  subst hf hx
  simp only [List.map_cons,DataW.weightsEach,List.mem_append]
  exact .inl hm
 | g :: fs,y :: ys,i + 1,f,x,hf,hx,m,hm => by
  simp only [List.map_cons,DataW.weightsEach,List.mem_append]
  exact .inr (weights_fields (fs:=fs) (xs:=ys) (i:=i) (by simpa using hf) (by simpa using hx) m hm)
theorem opens_struct {α : Type} {kd : Kd α} {Q : α → Prop} {t : TypeId} {fs : Array Field} (ht : P.underlying t = some (.struct fs)) (hc : P.cellsOf t = kd.sz) (hf : Fields enc P w base spare held kd Q fs.toList 0) : Opens enc P w base spare held kd Q t := by
 intro fuel cs x h hw
 obtain ⟨xs,m,_,rfl,hl,hlen,hi⟩:=DataW.trod_struct ht h
 obtain ⟨a,ha,hq⟩:=hf m cs xs (by omega) (by simpa using hlen) (fun i f hf => hi i f (by simpa using hf)) (fun i f x hf hx n hn => hw n (by
  simp only [DataW.weights,ht]
  exact weights_fields hf hx n hn))
 exact ⟨a,by simpa using ha,hq⟩
theorem opens_iso {α β : Type} {kd : Kd α} {Q : α → Prop} {t : TypeId} {f : β → α} (g : α → β) (hg : ∀ a, f (g a) = a) (ho : Opens enc P w base spare held kd Q t) : Opens enc P w base spare held (Kd.iso kd f) (fun b => Q (f b)) t := by
 intro n cs x h hw
 obtain ⟨a,ha,hq⟩:=ho n cs x h hw
 exact ⟨g a,by show kd.K w (f (g a)) cs;rw [hg];exact ha,by show Q (f (g a));rw [hg];exact hq⟩
theorem opens_mono {α : Type} {kd : Kd α} {Q Q' : α → Prop} {t : TypeId} (ho : Opens enc P w base spare held kd Q t) (h : ∀ a, Q a → Q' a) : Opens enc P w base spare held kd Q' t := by
 intro n cs x hx hw
 obtain ⟨a,ha,hq⟩:=ho n cs x hx hw
 exact ⟨a,ha,h a hq⟩
theorem open_agg {α : Type} {kd : Kd α} {Q : α → Prop} {t : TypeId} {fs : Array Field} {r : Reach} {b0 : Nat} {v : Value} {d : DataW H} {ps : List MemPlace} (ht : P.underlying t = some (.struct fs)) (ho : Opens enc P w base spare held kd Q t)
  (hw : ∀ n ∈ d.weights P t,n ≤ reachBytes) (hval : Value.okWide P w r b0 t v) (hd : DataW.Trod enc P w base spare held t v d ps) : ∃ a cs,v = .agg ⟨cs⟩ ∧ kd.K w a cs ∧ Q a:=by
 obtain ⟨⟨cs⟩,rfl,_⟩:=okWide_struct ht hval
 obtain ⟨fuel,hf⟩:=hd
 obtain ⟨a,ha,hq⟩:=ho _ _ _ hf hw
 exact ⟨a,cs,rfl,ha,hq⟩
end
end Op
end Go.Proofs.YtaokkkolbifdpaaGreatDoor.Hand
end

section
namespace Go.Proofs.YtaokkkolbifdpaaGreatDoor.Hand
open Go.ChangeShapes Go.WideShapes Go.ChangeAt Go.Joins Go.Deep Go.RowKit Go.Proofs.YtaokkkolbifdpaaGreatDoorW.PrintWords Go.Proofs.YtaokkkolbifdpaaGreatDoorW.PrintLast Go.Proofs.YtaokkkolbifdpaaGreatDoorW.PrintMore
namespace Op
section
variable {H : Type} {enc : TypeId × Value → H} {w : World} {base : Nat} {spare : Nat → Bool} {held : Bool}
def QPr (p : ByteArray × ByteArray) : Prop := p.1.size ≤ 140737488351232 ∧ p.2.size ≤ 140737488351232
theorem opens_pr : Opens enc Tryz.prog w base spare held (Kd.pair Kd.string Kd.string) QPr 23 :=
 opens_mono (opens_struct Tryz.underlying23 (by kernel_rfl) (fields_cons rfl (by kernel_rfl) (opens_str Tryz.underlying9) (fields_one rfl (by kernel_rfl) (opens_str Tryz.underlying9)))) (fun a h => h)
end
end Op
namespace Op
section
variable {H : Type} {enc : TypeId × Value → H} {w : World} {base : Nat} {spare : Nat → Bool} {held : Bool}
theorem opens_pair : Opens enc Tryz.prog w base spare held k23 (fun _ => True) 23 :=
 opens_mono (opens_iso (fun p => ⟨p.1,p.2⟩) (fun _ => rfl) opens_pr) (fun a h => trivial)
theorem opens_map : Opens enc Tryz.prog w base spare held (Kd.pair (Kd.slice 23 k23) (Kd.pair (Kd.slice 23 k23) (Kd.slice 23 k23))) (fun _ => True) 34 :=
 opens_mono (opens_struct Tryz.underlying34 (by kernel_rfl) (fields_cons rfl (by kernel_rfl) (opens_slice Tryz.underlying32 (by kernel_rfl) (of_decide_eq_true (by kernel_rfl)) opens_pair)
  (fields_cons rfl (by kernel_rfl) (opens_slice Tryz.underlying32 (by kernel_rfl) (of_decide_eq_true (by kernel_rfl)) opens_pair) (fields_one rfl (by kernel_rfl) (opens_slice Tryz.underlying32 (by kernel_rfl) (of_decide_eq_true (by kernel_rfl)) opens_pair))))) (fun a h => trivial)
theorem open_map {r : Reach} {b0 : Nat} {v : Value} {d : DataW H} {ps : List MemPlace} (hw : ∀ n ∈ d.weights Tryz.prog 34, n ≤ reachBytes) (hval : Value.okWide Tryz.prog w r b0 34 v) (hd : DataW.Trod enc Tryz.prog w base spare held 34 v d ps) :
  ∃ (A0 : Option Addr) (c0 : Nat) (l0 : List S23) (A1 : Option Addr) (c1 : Nat) (l1 : List S23) (A2 : Option Addr) (c2 : Nat) (l2 : List S23),v = .agg #[.slice A0 l0.length c0,.slice A1 l1.length c1,.slice A2 l2.length c2] ∧
   Kd.C k23 w A0 l0.length l0 ∧ l0.length ≤ c0 ∧ Kd.C k23 w A1 l1.length l1 ∧ l1.length ≤ c1 ∧ Kd.C k23 w A2 l2.length l2 ∧ l2.length ≤ c2:=by
 obtain ⟨⟨l0,l1,l2⟩,cs,rfl,hK,hq⟩:=open_agg Tryz.underlying34 opens_map hw hval hd
 obtain ⟨_,_,rfl,⟨A0,c0,rfl,m0,h0⟩,_,_,rfl,⟨A1,c1,rfl,m1,h1⟩,A2,c2,rfl,m2,h2⟩:=hK
 exact ⟨A0,c0,l0,A1,c1,l1,A2,c2,l2,rfl,h0,m0,h1,m1,h2,m2⟩
end
end Op
end Go.Proofs.YtaokkkolbifdpaaGreatDoor.Hand
end
