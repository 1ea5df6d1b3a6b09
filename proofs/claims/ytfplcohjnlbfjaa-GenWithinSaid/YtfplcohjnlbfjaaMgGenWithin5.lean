import Derived.Test.YtfplcohjnlbfjaaMgGenWithin1
import Derived.Test.YtfplcohjnlbfjaaMgGenWithin4
import Derived.Test.YtfplcohjnlbfjaaProg
import Derived.Below
import Derived.Deep.Draws
import Derived.Deep.AppendLies
import Derived.Maps.AppendAt
import Derived.OwnWalk
import Derived.Laws.BytesArg
import Derived.Laws.MakeOwn
import Derived.Laws.OwnMore
import Derived.Deep.OwnRows
import Derived.Tactics
import Derived.Lib.ConvBytes
import Derived.Laws.Slices
import Derived.WalkKit
import Derived.KernelRfl
import Derived.RowKit3
import Derived.Deep.LoopGhost
import Derived.Deep.QuietTactic
import Derived.BigQuiet
import Derived.WideLaws
import Derived.Deep.DeepCutAuto
import Derived.Deep.CutBlock
import Derived.Deep.RegionHeld3
import Derived.Laws.Rows
import Derived.Lib.AppendStr
import Derived.ArgAppend
import Derived.Laws.IdiomCopy
import Derived.OrdersHeld
import Derived.Laws.BitsLemmas
import Derived.RowKit
import Derived.Test.YtfplcohjnlbfjaaMgGenWithin0
import Derived.Lib.SmallJoins
import Derived.Test.YtfplcohjnlbfjaaMgGenWithin3
set_option linter.unusedVariables false
set_option linter.unusedSimpArgs false
set_option maxHeartbeats 64000000
set_option maxRecDepth 100000
section
namespace Go.Proofs.Ytfplcohjnlbfjaa.Hand
open Go.RowKit Go.Proofs.YtfplcohjnlbfjaaW
open PrintWords PrintLast PrintMore
def Puts (a0 a1 a2 a3 a4 : Value) (m : S25) (pc : Int) (x : S74) (ins : List S60) : Prop :=
 ∀ (g : Nat) (A8 : Option Addr) (c8 : Nat) (v : Value) (l : List S60) (W : World),MkOwn W g g a0 a1 a2 a3 a4 m pc (.int .i64 x.f0) (.int .i64 x.f1) (.int .i64 x.f2) (.int .i64 x.f3) (.int .i64 x.f4) (.string x.f5) (.string x.f6) (.string x.f7) (.slice A8 x.f8.length c8) v l → Kd.C (Kd.int .i64) W A8 x.f8.length x.f8 → x.f8.length ≤ c8 → l.length + 2 ≤ 1048576 → g ≤ W.heap.size →
  Calls Try.prog 46 #[.pointer (some ⟨g,0,none⟩)] W fun e w' => ∃ v',e = .returned (.tuple #[]) ∧ MkOwn w' g g a0 a1 a2 a3 a4 m pc (.int .i64 x.f0) (.int .i64 x.f1) (.int .i64 x.f2) (.int .i64 x.f3) (.int .i64 x.f4) (.string x.f5) (.string x.f6) (.string x.f7) (.slice A8 x.f8.length c8) v' (l ++ ins) ∧ Below g W w'
def allOf (ins : Nat → List S60) (n : Nat) : List S60 := (List.range n).flatMap ins
theorem allOf_succ (ins : Nat → List S60) (n : Nat) : allOf ins (n + 1) = allOf ins n ++ ins n := by
 unfold allOf
 rw [List.range_succ,List.flatMap_append]
 simp
theorem MkOwn.next {w : World} {base g : Nat} {a0 a1 a2 a3 a4 : Value} {m : S25} {pc : Int} {b0 b1 b2 b3 b4 b5 b6 b7 b8 : Value} {v : Value} {l : List S60} (h : MkOwn w base g a0 a1 a2 a3 a4 m pc b0 b1 b2 b3 b4 b5 b6 b7 b8 v l) (pc' : Int) (u0 u1 u2 u3 u4 u5 u6 u7 u8 : Value) : MkOwn ((((((((((w.setCell ⟨g, 8, none⟩ (.int .i64 pc')).setCell ⟨g, 9, none⟩ (u0)).setCell ⟨g, 10, none⟩ (u1)).setCell ⟨g, 11, none⟩ (u2)).setCell ⟨g, 12, none⟩ (u3)).setCell ⟨g, 13, none⟩ (u4)).setCell ⟨g, 14, none⟩ (u5)).setCell ⟨g, 15, none⟩ (u6)).setCell ⟨g, 16, none⟩ (u7)).setCell ⟨g, 17, none⟩ (u8)) base g a0 a1 a2 a3 a4 m pc' u0 u1 u2 u3 u4 u5 u6 u7 u8 v l := ⟨(blk_put (cs := #[a0, a1, a2, a3, a4, .string m.f0, .string m.f1, .string m.f2, .int .i64 pc', u0, u1, u2, u3, u4, u5, u6, u7, b8, v]) (blk_put (cs := #[a0, a1, a2, a3, a4, .string m.f0, .string m.f1, .string m.f2, .int .i64 pc', u0, u1, u2, u3, u4, u5, u6, b7, b8, v]) (blk_put (cs := #[a0, a1, a2, a3, a4, .string m.f0, .string m.f1, .string m.f2, .int .i64 pc', u0, u1, u2, u3, u4, u5, b6, b7, b8, v]) (blk_put (cs := #[a0, a1, a2, a3, a4, .string m.f0, .string m.f1, .string m.f2, .int .i64 pc', u0, u1, u2, u3, u4, b5, b6, b7, b8, v]) (blk_put (cs := #[a0, a1, a2, a3, a4, .string m.f0, .string m.f1, .string m.f2, .int .i64 pc', u0, u1, u2, u3, b4, b5, b6, b7, b8, v]) (blk_put (cs := #[a0, a1, a2, a3, a4, .string m.f0, .string m.f1, .string m.f2, .int .i64 pc', u0, u1, u2, b3, b4, b5, b6, b7, b8, v]) (blk_put (cs := #[a0, a1, a2, a3, a4, .string m.f0, .string m.f1, .string m.f2, .int .i64 pc', u0, u1, b2, b3, b4, b5, b6, b7, b8, v]) (blk_put (cs := #[a0, a1, a2, a3, a4, .string m.f0, .string m.f1, .string m.f2, .int .i64 pc', u0, b1, b2, b3, b4, b5, b6, b7, b8, v]) (blk_put (cs := #[a0, a1, a2, a3, a4, .string m.f0, .string m.f1, .string m.f2, .int .i64 pc', b0, b1, b2, b3, b4, b5, b6, b7, b8, v]) (blk_put (cs := #[a0, a1, a2, a3, a4, .string m.f0, .string m.f1, .string m.f2, .int .i64 pc, b0, b1, b2, b3, b4, b5, b6, b7, b8, v]) h.b 8 (.int .i64 pc') rfl) 9 (u0) rfl) 10 (u1) rfl) 11 (u2) rfl) 12 (u3) rfl) 13 (u4) rfl) 14 (u5) rfl) 15 (u6) rfl) 16 (u7) rfl) 17 (u8) rfl), h.hb, (Kd.R_set (Kd.R_set (Kd.R_set (Kd.R_set (Kd.R_set (Kd.R_set (Kd.R_set (Kd.R_set (Kd.R_set (Kd.R_set h.r h.b (by decide) 8 (.int .i64 pc')) (blk_put (cs := #[a0, a1, a2, a3, a4, .string m.f0, .string m.f1, .string m.f2, .int .i64 pc, b0, b1, b2, b3, b4, b5, b6, b7, b8, v]) h.b 8 (.int .i64 pc') rfl) (by decide) 9 (u0)) (blk_put (cs := #[a0, a1, a2, a3, a4, .string m.f0, .string m.f1, .string m.f2, .int .i64 pc', b0, b1, b2, b3, b4, b5, b6, b7, b8, v]) (blk_put (cs := #[a0, a1, a2, a3, a4, .string m.f0, .string m.f1, .string m.f2, .int .i64 pc, b0, b1, b2, b3, b4, b5, b6, b7, b8, v]) h.b 8 (.int .i64 pc') rfl) 9 (u0) rfl) (by decide) 10 (u1)) (blk_put (cs := #[a0, a1, a2, a3, a4, .string m.f0, .string m.f1, .string m.f2, .int .i64 pc', u0, b1, b2, b3, b4, b5, b6, b7, b8, v]) (blk_put (cs := #[a0, a1, a2, a3, a4, .string m.f0, .string m.f1, .string m.f2, .int .i64 pc', b0, b1, b2, b3, b4, b5, b6, b7, b8, v]) (blk_put (cs := #[a0, a1, a2, a3, a4, .string m.f0, .string m.f1, .string m.f2, .int .i64 pc, b0, b1, b2, b3, b4, b5, b6, b7, b8, v]) h.b 8 (.int .i64 pc') rfl) 9 (u0) rfl) 10 (u1) rfl) (by decide) 11 (u2)) (blk_put (cs := #[a0, a1, a2, a3, a4, .string m.f0, .string m.f1, .string m.f2, .int .i64 pc', u0, u1, b2, b3, b4, b5, b6, b7, b8, v]) (blk_put (cs := #[a0, a1, a2, a3, a4, .string m.f0, .string m.f1, .string m.f2, .int .i64 pc', u0, b1, b2, b3, b4, b5, b6, b7, b8, v]) (blk_put (cs := #[a0, a1, a2, a3, a4, .string m.f0, .string m.f1, .string m.f2, .int .i64 pc', b0, b1, b2, b3, b4, b5, b6, b7, b8, v]) (blk_put (cs := #[a0, a1, a2, a3, a4, .string m.f0, .string m.f1, .string m.f2, .int .i64 pc, b0, b1, b2, b3, b4, b5, b6, b7, b8, v]) h.b 8 (.int .i64 pc') rfl) 9 (u0) rfl) 10 (u1) rfl) 11 (u2) rfl) (by decide) 12 (u3)) (blk_put (cs := #[a0, a1, a2, a3, a4, .string m.f0, .string m.f1, .string m.f2, .int .i64 pc', u0, u1, u2, b3, b4, b5, b6, b7, b8, v]) (blk_put (cs := #[a0, a1, a2, a3, a4, .string m.f0, .string m.f1, .string m.f2, .int .i64 pc', u0, u1, b2, b3, b4, b5, b6, b7, b8, v]) (blk_put (cs := #[a0, a1, a2, a3, a4, .string m.f0, .string m.f1, .string m.f2, .int .i64 pc', u0, b1, b2, b3, b4, b5, b6, b7, b8, v]) (blk_put (cs := #[a0, a1, a2, a3, a4, .string m.f0, .string m.f1, .string m.f2, .int .i64 pc', b0, b1, b2, b3, b4, b5, b6, b7, b8, v]) (blk_put (cs := #[a0, a1, a2, a3, a4, .string m.f0, .string m.f1, .string m.f2, .int .i64 pc, b0, b1, b2, b3, b4, b5, b6, b7, b8, v]) h.b 8 (.int .i64 pc') rfl) 9 (u0) rfl) 10 (u1) rfl) 11 (u2) rfl) 12 (u3) rfl) (by decide) 13 (u4)) (blk_put (cs := #[a0, a1, a2, a3, a4, .string m.f0, .string m.f1, .string m.f2, .int .i64 pc', u0, u1, u2, u3, b4, b5, b6, b7, b8, v]) (blk_put (cs := #[a0, a1, a2, a3, a4, .string m.f0, .string m.f1, .string m.f2, .int .i64 pc', u0, u1, u2, b3, b4, b5, b6, b7, b8, v]) (blk_put (cs := #[a0, a1, a2, a3, a4, .string m.f0, .string m.f1, .string m.f2, .int .i64 pc', u0, u1, b2, b3, b4, b5, b6, b7, b8, v]) (blk_put (cs := #[a0, a1, a2, a3, a4, .string m.f0, .string m.f1, .string m.f2, .int .i64 pc', u0, b1, b2, b3, b4, b5, b6, b7, b8, v]) (blk_put (cs := #[a0, a1, a2, a3, a4, .string m.f0, .string m.f1, .string m.f2, .int .i64 pc', b0, b1, b2, b3, b4, b5, b6, b7, b8, v]) (blk_put (cs := #[a0, a1, a2, a3, a4, .string m.f0, .string m.f1, .string m.f2, .int .i64 pc, b0, b1, b2, b3, b4, b5, b6, b7, b8, v]) h.b 8 (.int .i64 pc') rfl) 9 (u0) rfl) 10 (u1) rfl) 11 (u2) rfl) 12 (u3) rfl) 13 (u4) rfl) (by decide) 14 (u5)) (blk_put (cs := #[a0, a1, a2, a3, a4, .string m.f0, .string m.f1, .string m.f2, .int .i64 pc', u0, u1, u2, u3, u4, b5, b6, b7, b8, v]) (blk_put (cs := #[a0, a1, a2, a3, a4, .string m.f0, .string m.f1, .string m.f2, .int .i64 pc', u0, u1, u2, u3, b4, b5, b6, b7, b8, v]) (blk_put (cs := #[a0, a1, a2, a3, a4, .string m.f0, .string m.f1, .string m.f2, .int .i64 pc', u0, u1, u2, b3, b4, b5, b6, b7, b8, v]) (blk_put (cs := #[a0, a1, a2, a3, a4, .string m.f0, .string m.f1, .string m.f2, .int .i64 pc', u0, u1, b2, b3, b4, b5, b6, b7, b8, v]) (blk_put (cs := #[a0, a1, a2, a3, a4, .string m.f0, .string m.f1, .string m.f2, .int .i64 pc', u0, b1, b2, b3, b4, b5, b6, b7, b8, v]) (blk_put (cs := #[a0, a1, a2, a3, a4, .string m.f0, .string m.f1, .string m.f2, .int .i64 pc', b0, b1, b2, b3, b4, b5, b6, b7, b8, v]) (blk_put (cs := #[a0, a1, a2, a3, a4, .string m.f0, .string m.f1, .string m.f2, .int .i64 pc, b0, b1, b2, b3, b4, b5, b6, b7, b8, v]) h.b 8 (.int .i64 pc') rfl) 9 (u0) rfl) 10 (u1) rfl) 11 (u2) rfl) 12 (u3) rfl) 13 (u4) rfl) 14 (u5) rfl) (by decide) 15 (u6)) (blk_put (cs := #[a0, a1, a2, a3, a4, .string m.f0, .string m.f1, .string m.f2, .int .i64 pc', u0, u1, u2, u3, u4, u5, b6, b7, b8, v]) (blk_put (cs := #[a0, a1, a2, a3, a4, .string m.f0, .string m.f1, .string m.f2, .int .i64 pc', u0, u1, u2, u3, u4, b5, b6, b7, b8, v]) (blk_put (cs := #[a0, a1, a2, a3, a4, .string m.f0, .string m.f1, .string m.f2, .int .i64 pc', u0, u1, u2, u3, b4, b5, b6, b7, b8, v]) (blk_put (cs := #[a0, a1, a2, a3, a4, .string m.f0, .string m.f1, .string m.f2, .int .i64 pc', u0, u1, u2, b3, b4, b5, b6, b7, b8, v]) (blk_put (cs := #[a0, a1, a2, a3, a4, .string m.f0, .string m.f1, .string m.f2, .int .i64 pc', u0, u1, b2, b3, b4, b5, b6, b7, b8, v]) (blk_put (cs := #[a0, a1, a2, a3, a4, .string m.f0, .string m.f1, .string m.f2, .int .i64 pc', u0, b1, b2, b3, b4, b5, b6, b7, b8, v]) (blk_put (cs := #[a0, a1, a2, a3, a4, .string m.f0, .string m.f1, .string m.f2, .int .i64 pc', b0, b1, b2, b3, b4, b5, b6, b7, b8, v]) (blk_put (cs := #[a0, a1, a2, a3, a4, .string m.f0, .string m.f1, .string m.f2, .int .i64 pc, b0, b1, b2, b3, b4, b5, b6, b7, b8, v]) h.b 8 (.int .i64 pc') rfl) 9 (u0) rfl) 10 (u1) rfl) 11 (u2) rfl) 12 (u3) rfl) 13 (u4) rfl) 14 (u5) rfl) 15 (u6) rfl) (by decide) 16 (u7)) (blk_put (cs := #[a0, a1, a2, a3, a4, .string m.f0, .string m.f1, .string m.f2, .int .i64 pc', u0, u1, u2, u3, u4, u5, u6, b7, b8, v]) (blk_put (cs := #[a0, a1, a2, a3, a4, .string m.f0, .string m.f1, .string m.f2, .int .i64 pc', u0, u1, u2, u3, u4, u5, b6, b7, b8, v]) (blk_put (cs := #[a0, a1, a2, a3, a4, .string m.f0, .string m.f1, .string m.f2, .int .i64 pc', u0, u1, u2, u3, u4, b5, b6, b7, b8, v]) (blk_put (cs := #[a0, a1, a2, a3, a4, .string m.f0, .string m.f1, .string m.f2, .int .i64 pc', u0, u1, u2, u3, b4, b5, b6, b7, b8, v]) (blk_put (cs := #[a0, a1, a2, a3, a4, .string m.f0, .string m.f1, .string m.f2, .int .i64 pc', u0, u1, u2, b3, b4, b5, b6, b7, b8, v]) (blk_put (cs := #[a0, a1, a2, a3, a4, .string m.f0, .string m.f1, .string m.f2, .int .i64 pc', u0, u1, b2, b3, b4, b5, b6, b7, b8, v]) (blk_put (cs := #[a0, a1, a2, a3, a4, .string m.f0, .string m.f1, .string m.f2, .int .i64 pc', u0, b1, b2, b3, b4, b5, b6, b7, b8, v]) (blk_put (cs := #[a0, a1, a2, a3, a4, .string m.f0, .string m.f1, .string m.f2, .int .i64 pc', b0, b1, b2, b3, b4, b5, b6, b7, b8, v]) (blk_put (cs := #[a0, a1, a2, a3, a4, .string m.f0, .string m.f1, .string m.f2, .int .i64 pc, b0, b1, b2, b3, b4, b5, b6, b7, b8, v]) h.b 8 (.int .i64 pc') rfl) 9 (u0) rfl) 10 (u1) rfl) 11 (u2) rfl) 12 (u3) rfl) 13 (u4) rfl) 14 (u5) rfl) 15 (u6) rfl) 16 (u7) rfl) (by decide) 17 (u8))⟩
theorem gen_of (P : Nat → Prop) (A0 : Option Addr) (c0 : Nat) (l0 : List S33) (A1 : Option Addr) (c1 : Nat) (l1 : List ByteArray) (a2 a3 a4 b0 b1 b2 : ByteArray) (w : World) (hs : Kd.F k33 w P A0 l0.length l0) (hc : l0.length ≤ c0) (hr1 : Kd.C Kd.string w A1 l1.length l1) (hc1 : l1.length ≤ c1)
  (ins : Nat → List S60) (hput : ∀ i (h : i < (getM l0 b0 b1 b2).f5.length),Puts (.slice A0 l0.length c0) (.slice A1 l1.length c1) (.string a2) (.string a3) (.string a4) ⟨b0,b1,b2⟩ (i : Int) ((getM l0 b0 b1 b2).f5[i]) (ins i)) (hlen : ∀ i,i ≤ (getM l0 b0 b1 b2).f5.length → (allOf ins i).length + 2 ≤ 1048576) :
  Calls Try.prog 29 #[.agg (pG A0 l0 c0 A1 l1 c1 a2 a3 a4),.agg #[.string b0,.string b1,.string b2]] w fun e w' => ∃ v',e = .returned v' ∧ Kd.R k60 60 w' w.heap.size (fun _ => True) v' (allOf ins (getM l0 b0 b1 b2).f5.length) ∧ Below w.heap.size w w':=by
 have hb0:=below_alloc (below_alloc (Below.refl w.heap.size w) (Obj.cells (pG A0 l0 c0 A1 l1 c1 a2 a3 a4) 27)) (Obj.cells #[.string b0,.string b1,.string b2] 25)
 have HG:=aq (find_get P A0 c0 l0 A1 c1 l1 a2 a3 a4 b0 b1 b2 ((w.alloc (Obj.cells (pG A0 l0 c0 A1 l1 c1 a2 a3 a4) 27)).alloc (Obj.cells #[.string b0,.string b1,.string b2] 25)) (Kd.F_below hs hb0) hc (Kd.C_below hr1 hb0) hc1)
 have HB0:=aq hb0
 have hp:=blk_alloc (World.alloc_heap_new w (Obj.cells (pG A0 l0 c0 A1 l1 c1 a2 a3 a4) 27)) (Obj.cells #[.string b0,.string b1,.string b2] 25)
 have hq:=World.alloc_heap_new (w.alloc (Obj.cells (pG A0 l0 c0 A1 l1 c1 a2 a3 a4) 27)) (Obj.cells #[.string b0,.string b1,.string b2] 25)
 rw [World.size_alloc] at hq
 have HP:=aq hp
 have HQ:=aq hq
 have HPT:=aq hput
 have HLE:=aq hlen
 clear hs hr1 hb0 hp hq hput hlen
 go_enter Try.func29,Try.ntmps29
 go_wp2_with fail
 refine HG.out.mono ?_
 rintro e w1 ⟨A5,c5,rfl,hfk,hb⟩
 obtain ⟨hc5,hF⟩:=method_code hfk
 have HCD:=aq (Kd.F_now hF)
 have HC5:=aq hc5
 have HB1:=aq (below_step HB0.out hb)
 have HP1:=aq (blk_below HP.out hb)
 have HQ1:=aq (blk_below HQ.out hb)
 clear hfk hb hF hc5
 have HPm:=aq (blk_alloc HP1.out (Obj.cells (zH (getM l0 b0 b1 b2) A5 c5) 37))
 have HQm:=aq (blk_alloc HQ1.out (Obj.cells (zH (getM l0 b0 b1 b2) A5 c5) 37))
 have hd:=blk_alloc (World.alloc_heap_new w1 (Obj.cells (zH (getM l0 b0 b1 b2) A5 c5) 37)) (Obj.cells #[.slice A0 l0.length c0,.slice A1 l1.length c1,.string a2,.string a3,.string a4,.string b0,.string b1,.string b2,.int .i64 0,.int .i64 0,.int .i64 0,.int .i64 0,.int .i64 0,.int .i64 0,.string ⟨#[]⟩,.string ⟨#[]⟩,.string ⟨#[]⟩,.slice none 0 0,.slice none 0 0] 85)
 have hk:=World.alloc_heap_new (w1.alloc (Obj.cells (zH (getM l0 b0 b1 b2) A5 c5) 37)) (Obj.cells #[.slice A0 l0.length c0,.slice A1 l1.length c1,.string a2,.string a3,.string a4,.string b0,.string b1,.string b2,.int .i64 0,.int .i64 0,.int .i64 0,.int .i64 0,.int .i64 0,.int .i64 0,.string ⟨#[]⟩,.string ⟨#[]⟩,.string ⟨#[]⟩,.slice none 0 0,.slice none 0 0] 85)
 rw [World.size_alloc] at hk
 obtain ⟨n,hn⟩ : ∃ n,n = (getM l0 b0 b1 b2).f5.length:=⟨_,rfl⟩
 have HMK : Aside0 (MkOwn ((w1.alloc (Obj.cells (zH (getM l0 b0 b1 b2) A5 c5) 37)).alloc (Obj.cells #[.slice A0 l0.length c0,.slice A1 l1.length c1,.string a2,.string a3,.string a4,.string b0,.string b1,.string b2,.int .i64 0,.int .i64 0,.int .i64 0,.int .i64 0,.int .i64 0,.int .i64 0,.string ⟨#[]⟩,.string ⟨#[]⟩,.string ⟨#[]⟩,.slice none 0 0,.slice none 0 0] 85)) (w1.heap.size + 1) (w1.heap.size + 1) (.slice A0 l0.length c0) (.slice A1 l1.length c1) (.string a2) (.string a3) (.string a4) ⟨b0,b1,b2⟩ 0 (.int .i64 0) (.int .i64 0) (.int .i64 0) (.int .i64 0) (.int .i64 0) (.string ⟨#[]⟩) (.string ⟨#[]⟩) (.string ⟨#[]⟩) (.slice none 0 0) (.slice none 0 0) []):=⟨⟨hk,Nat.le_refl _,Kd.R_nil _ _ _ _ _⟩⟩
 have HBC:=aq (below_alloc (below_alloc (Below.refl w1.heap.size w1) (Obj.cells (zH (getM l0 b0 b1 b2) A5 c5) 37)) (Obj.cells #[.slice A0 l0.length c0,.slice A1 l1.length c1,.string a2,.string a3,.string a4,.string b0,.string b1,.string b2,.int .i64 0,.int .i64 0,.int .i64 0,.int .i64 0,.int .i64 0,.int .i64 0,.string ⟨#[]⟩,.string ⟨#[]⟩,.string ⟨#[]⟩,.slice none 0 0,.slice none 0 0] 85))
 have d5 : ((w1.alloc (Obj.cells (zH (getM l0 b0 b1 b2) A5 c5) 37)).alloc (Obj.cells #[.slice A0 l0.length c0,.slice A1 l1.length c1,.string a2,.string a3,.string a4,.string b0,.string b1,.string b2,.int .i64 0,.int .i64 0,.int .i64 0,.int .i64 0,.int .i64 0,.int .i64 0,.string ⟨#[]⟩,.string ⟨#[]⟩,.string ⟨#[]⟩,.slice none 0 0,.slice none 0 0] 85)).cell? ⟨w1.heap.size,5,none⟩ = some (.slice A5 (getM l0 b0 b1 b2).f5.length c5):=blk_cell hd 5
 have HSZ : Aside0 (((w1.alloc (Obj.cells (zH (getM l0 b0 b1 b2) A5 c5) 37)).alloc (Obj.cells #[.slice A0 l0.length c0,.slice A1 l1.length c1,.string a2,.string a3,.string a4,.string b0,.string b1,.string b2,.int .i64 0,.int .i64 0,.int .i64 0,.int .i64 0,.int .i64 0,.int .i64 0,.string ⟨#[]⟩,.string ⟨#[]⟩,.string ⟨#[]⟩,.slice none 0 0,.slice none 0 0] 85)).heap.size = w1.heap.size + 2):=⟨by rw [World.size_alloc,World.size_alloc]⟩
 clear hk hd
 obtain ⟨p0,p1,p2,p3,p4⟩:=cells5 HPm.out
 obtain ⟨q0,q1,q2⟩:=cells3 HQm.out
 go_wp2_with fail
 clear p0 p1 p2 p3 p4 q0 q1 q2 d5
 generalize (w1.alloc (Obj.cells (zH (getM l0 b0 b1 b2) A5 c5) 37)).alloc (Obj.cells #[.slice A0 l0.length c0,.slice A1 l1.length c1,.string a2,.string a3,.string a4,.string b0,.string b1,.string b2,.int .i64 0,.int .i64 0,.int .i64 0,.int .i64 0,.int .i64 0,.int .i64 0,.string ⟨#[]⟩,.string ⟨#[]⟩,.string ⟨#[]⟩,.slice none 0 0,.slice none 0 0] 85) = W2 at HMK HBC HSZ ⊢
 obtain ⟨G,hG⟩ : ∃ G,G = w1.heap.size + 1:=⟨_,rfl⟩
 rw [← hG] at HMK ⊢
 have HG1 : Aside0 (w1.heap.size ≤ G ∧ W2.heap.size = G + 1):=⟨by have:=HSZ.out;omega⟩
 rw [← hn]
 have HNN:=aq hn
 clear hG HSZ hn
 go_loopg [21] n (fun kq v21 wr => ∃ (i : Nat) (pcv : Int) (t0 t1 t2 t3 t4 t5 t6 t7 t8 v : Value),v21 = .int .i64 (i : Int) ∧ i + kq = n ∧ Aside0 (MkOwn wr G G (.slice A0 l0.length c0) (.slice A1 l1.length c1) (.string a2) (.string a3) (.string a4) ⟨b0,b1,b2⟩ pcv t0 t1 t2 t3 t4 t5 t6 t7 t8 v (allOf ins i)) ∧ Aside0 (Below G W2 wr))
 case atStart => exact ⟨0,0,.int .i64 0,.int .i64 0,.int .i64 0,.int .i64 0,.int .i64 0,.string ⟨#[]⟩,.string ⟨#[]⟩,.string ⟨#[]⟩,.slice none 0 0,.slice none 0 0,rfl,by omega,HMK,⟨Below.refl _ _⟩⟩
 case round =>
  obtain ⟨i,pcv,t0,t1,t2,t3,t4,t5,t6,t7,t8,v,rfl,hi,HM,HBL⟩:=hrel
  have HBR : Aside0 (Below w1.heap.size w1 wr):=⟨HBC.out.trans (HBL.out.mono HG1.out.1)⟩
  by_cases hlt : i < n
  ·
   have hltX : i < (getM l0 b0 b1 b2).f5.length:=by rw [← HNN.out];exact hlt
   obtain ⟨ad,A8,c8,hA,h0,h1,h2,h3,h4,h5,h6,h7,h8,hl8,hC8⟩:=at_T74 HCD.out (i : Int) (by omega) (Int.ofNat_lt.2 hltX)
   have hx : rd_T74 (getM l0 b0 b1 b2).f5 (i : Int) = (getM l0 b0 b1 b2).f5[i]:=by
    unfold rd_T74
    rw [Int.toNat_natCast,List.getD_eq_getElem?_getD,List.getElem?_eq_getElem hltX]
    rfl
   have HPI:=aq (HPT.out i hltX)
   rw [hx,Int.toNat_natCast] at h0 h1 h2 h3 h4 h5 h6 h7 h8
   rw [hx] at hl8 hC8
   obtain ⟨y,hy⟩ : ∃ y,(getM l0 b0 b1 b2).f5[i] = y:=⟨_,rfl⟩
   rw [hy] at HPI h0 h1 h2 h3 h4 h5 h6 h7 h8 hl8 hC8
   subst hA
   replace h0:=sC HBR.out h0
   replace h1:=sC HBR.out h1
   replace h2:=sC HBR.out h2
   replace h3:=sC HBR.out h3
   replace h4:=sC HBR.out h4
   replace h5:=sC HBR.out h5
   replace h6:=sC HBR.out h6
   replace h7:=sC HBR.out h7
   replace h8:=sC HBR.out h8
   obtain ⟨s8,s9,s10,s11,s12,s13,s14,s15,s16,s17⟩ : wr.cell? ⟨G,8,none⟩ = some (.int .i64 pcv) ∧ wr.cell? ⟨G,9,none⟩ = some (t0) ∧ wr.cell? ⟨G,10,none⟩ = some (t1) ∧ wr.cell? ⟨G,11,none⟩ = some (t2) ∧ wr.cell? ⟨G,12,none⟩ = some (t3) ∧ wr.cell? ⟨G,13,none⟩ = some (t4) ∧ wr.cell? ⟨G,14,none⟩ = some (t5) ∧ wr.cell? ⟨G,15,none⟩ = some (t6) ∧ wr.cell? ⟨G,16,none⟩ = some (t7) ∧ wr.cell? ⟨G,17,none⟩ = some (t8):=⟨blk_cell HM.out.b 8,blk_cell HM.out.b 9,blk_cell HM.out.b 10,blk_cell HM.out.b 11,blk_cell HM.out.b 12,blk_cell HM.out.b 13,blk_cell HM.out.b 14,blk_cell HM.out.b 15,blk_cell HM.out.b 16,blk_cell HM.out.b 17⟩
   have hfg:=blk_frozen HM.out.b
   have HN:=aq (HM.out.next (i : Int) (.int .i64 y.f0) (.int .i64 y.f1) (.int .i64 y.f2) (.int .i64 y.f3) (.int .i64 y.f4) (.string y.f5) (.string y.f6) (.string y.f7) (.slice A8 y.f8.length c8))
   have HBS:=aq (show Below w1.heap.size w1 ((((((((((wr.setCell ⟨G,8,none⟩ (.int .i64 (i : Int))).setCell ⟨G,9,none⟩ (.int .i64 y.f0)).setCell ⟨G,10,none⟩ (.int .i64 y.f1)).setCell ⟨G,11,none⟩ (.int .i64 y.f2)).setCell ⟨G,12,none⟩ (.int .i64 y.f3)).setCell ⟨G,13,none⟩ (.int .i64 y.f4)).setCell ⟨G,14,none⟩ (.string y.f5)).setCell ⟨G,15,none⟩ (.string y.f6)).setCell ⟨G,16,none⟩ (.string y.f7)).setCell ⟨G,17,none⟩ (.slice A8 y.f8.length c8)) from ((((((((((HBR.out.setCell HG1.out.1 _).setCell HG1.out.1 _).setCell HG1.out.1 _).setCell HG1.out.1 _).setCell HG1.out.1 _).setCell HG1.out.1 _).setCell HG1.out.1 _).setCell HG1.out.1 _).setCell HG1.out.1 _).setCell HG1.out.1 _))
   have HBT:=aq (show Below G W2 ((((((((((wr.setCell ⟨G,8,none⟩ (.int .i64 (i : Int))).setCell ⟨G,9,none⟩ (.int .i64 y.f0)).setCell ⟨G,10,none⟩ (.int .i64 y.f1)).setCell ⟨G,11,none⟩ (.int .i64 y.f2)).setCell ⟨G,12,none⟩ (.int .i64 y.f3)).setCell ⟨G,13,none⟩ (.int .i64 y.f4)).setCell ⟨G,14,none⟩ (.string y.f5)).setCell ⟨G,15,none⟩ (.string y.f6)).setCell ⟨G,16,none⟩ (.string y.f7)).setCell ⟨G,17,none⟩ (.slice A8 y.f8.length c8)) from ((((((((((HBL.out.setCell (Nat.le_refl _) _).setCell (Nat.le_refl _) _).setCell (Nat.le_refl _) _).setCell (Nat.le_refl _) _).setCell (Nat.le_refl _) _).setCell (Nat.le_refl _) _).setCell (Nat.le_refl _) _).setCell (Nat.le_refl _) _).setCell (Nat.le_refl _) _).setCell (Nat.le_refl _) _))
   have HL8:=aq hl8
   have HC8:=aq hC8
   have HLI:=aq (HLE.out i (Nat.le_of_lt hltX))
   have hd : decide ((i : Int) < (n : Int)) = true:=decide_eq_true (by omega)
   have hi0 : (0 : Int) ≤ (i : Int):=by omega
   have hi1 : (i : Int) < (n : Int):=by omega
   have HLT:=aq hlt
   clear hx hy hl8 hC8 hltX
   go_wp2_with fail
   refine (HPI.out G A8 c8 v (allOf ins i) _ HN.out (Kd.C_below HC8.out HBS.out) HL8.out HLI.out (Nat.le_trans (by have:=HG1.out.2;omega) HBT.out.size)).mono ?_
   rintro e w3 ⟨v3,rfl,hm3,hb3⟩
   have HM3:=aq hm3
   have HB3:=aq (HBT.out.trans hb3)
   clear hm3 hb3 h0 h1 h2 h3 h4 h5 h6 h7 h8 s8 s9 s10 s11 s12 s13 s14 s15 s16 s17 hfg
   go_wp2_with fail
   go_roundg (gk - 1)
   case measure => omega
   case rel => exact ⟨i + 1,(i : Int),.int .i64 y.f0,.int .i64 y.f1,.int .i64 y.f2,.int .i64 y.f3,.int .i64 y.f4,.string y.f5,.string y.f6,.string y.f7,.slice A8 y.f8.length c8,v3,by rw [show wrap64 ((i : Int) + 1) = ((i + 1 : Nat) : Int) from by have hm:=HCD.out.2.1;have h1:=HLT.out;have h2:=HNN.out;unfold wrap64;omega],by omega,⟨by rw [allOf_succ];exact HM3.out⟩,HB3⟩
  ·
   have hd : decide ((i : Int) < (n : Int)) = false:=decide_eq_false (by omega)
   obtain rfl : i = n:=by omega
   have s18 : wr.cell? ⟨G,18,none⟩ = some v:=blk_cell HM.out.b 18
   have HFIN:=aq (Kd.R_lower HM.out.r (Nat.le_trans HB1.out.size HG1.out.1))
   have HBF:=aq (below_step HB1.out HBR.out)
   go_wp2_with fail
   exact bodyPost_ret (results_tmp rfl _ _ _) rfl ⟨v,rfl,by rw [← HNN.out];exact HFIN.out,HBF.out⟩
def passL (c : S60) (t : S25) (i : Nat) : S60 := ⟨2, c.f1, (⟨1, t, (i : Int), z44, z46⟩ : S50), (⟨1, c.f4.f0, (c.f8.getD i 0), z44, z46⟩ : S50), ⟨c.f4.f0, 0, ⟨#[]⟩⟩, z44, ⟨#[]⟩, z25, []⟩
def passAll (c : S60) (t : S25) (n : Nat) : List S60 := (List.range n).map (passL c t)
theorem passAll_succ (c : S60) (t : S25) (n : Nat) : passAll c t (n + 1) = passAll c t n ++ [passL c t n] := by
 unfold passAll
 rw [List.range_succ,List.map_append]
 rfl
theorem int_at {w : World} {A : Option Addr} {xs : List Int} (h : Kd.C (Kd.int .i64) w A xs.length xs) (i : Nat) (hi : i < xs.length) : ∃ ad, A = some ad ∧ w.cell? (ad.add i) = some (.int .i64 (xs.getD i 0)) := by
 obtain ⟨ad,c,rfl,hl,hK,hc⟩:=Kd.C_get h 0 (i : Int) (by omega) (Int.ofNat_lt.2 hi)
 refine ⟨ad,rfl,?_⟩
 have h1:=hc 0 (.int .i64 (xs.getD i 0)) (by
  have h2 : c = [.int .i64 (xs.getD (i : Int).toNat 0)]:=hK
  rw [h2];rfl)
 have e : (i : Int).toNat * (Kd.int .i64).sz + 0 = i:=by show i * 1 + 0 = i;omega
 rw [e] at h1
 exact h1
theorem gen_pass (c : S60) (A : Option Addr) (c0 : Nat) (t : S25) (w : World) (hk : c.f0 = 9) (ht : c.f2.f0 = 0) (hC : Kd.C (Kd.int .i64) w A c.f8.length c.f8) (hc : c.f8.length ≤ c0) (hlen : c.f8.length + 2 ≤ 1048576) :
  Calls Try.prog 24 #[.agg (List.toArray ((kK c.f0 c.f1 (qL c.f2 (qL c.f3 (sL c.f4 (fL c.f5 (kS c.f6 (mL c.f7 [.slice A c.f8.length c0]))))))))),.agg #[.string t.f0,.string t.f1,.string t.f2]] w fun e w' => ∃ v',e = .returned v' ∧ Kd.R k60 60 w' w.heap.size (fun _ => True) v' (passAll c t c.f8.length) ∧ Below w.heap.size w w':=by
 have hab:=below_alloc (below_alloc (below_alloc (Below.refl w.heap.size w) (Obj.cells (List.toArray ((kK c.f0 c.f1 (qL c.f2 (qL c.f3 (sL c.f4 (fL c.f5 (kS c.f6 (mL c.f7 [.slice A c.f8.length c0]))))))))) 60)) (Obj.cells #[.string t.f0,.string t.f1,.string t.f2] 25)) (Obj.cells #[.slice none 0 0,.slice none 0 0,.string ⟨#[]⟩,.string ⟨#[]⟩,.string ⟨#[]⟩,.string c.f4.f0.f0,.string c.f4.f0.f1,.string c.f4.f0.f2,.int .i64 c.f1,.int .i64 0,.int .i64 0,.int .i64 0,.int .i64 0,.int .i64 0,.string ⟨#[]⟩,.string ⟨#[]⟩,.string ⟨#[]⟩,.slice none 0 0,.slice none 0 0] 85)
 have h0:=blk_alloc (blk_alloc (World.alloc_heap_new w (Obj.cells (List.toArray ((kK c.f0 c.f1 (qL c.f2 (qL c.f3 (sL c.f4 (fL c.f5 (kS c.f6 (mL c.f7 [.slice A c.f8.length c0]))))))))) 60)) (Obj.cells #[.string t.f0,.string t.f1,.string t.f2] 25)) (Obj.cells #[.slice none 0 0,.slice none 0 0,.string ⟨#[]⟩,.string ⟨#[]⟩,.string ⟨#[]⟩,.string c.f4.f0.f0,.string c.f4.f0.f1,.string c.f4.f0.f2,.int .i64 c.f1,.int .i64 0,.int .i64 0,.int .i64 0,.int .i64 0,.int .i64 0,.string ⟨#[]⟩,.string ⟨#[]⟩,.string ⟨#[]⟩,.slice none 0 0,.slice none 0 0] 85)
 have h1:=blk_alloc (World.alloc_heap_new (w.alloc (Obj.cells (List.toArray ((kK c.f0 c.f1 (qL c.f2 (qL c.f3 (sL c.f4 (fL c.f5 (kS c.f6 (mL c.f7 [.slice A c.f8.length c0]))))))))) 60)) (Obj.cells #[.string t.f0,.string t.f1,.string t.f2] 25)) (Obj.cells #[.slice none 0 0,.slice none 0 0,.string ⟨#[]⟩,.string ⟨#[]⟩,.string ⟨#[]⟩,.string c.f4.f0.f0,.string c.f4.f0.f1,.string c.f4.f0.f2,.int .i64 c.f1,.int .i64 0,.int .i64 0,.int .i64 0,.int .i64 0,.int .i64 0,.string ⟨#[]⟩,.string ⟨#[]⟩,.string ⟨#[]⟩,.slice none 0 0,.slice none 0 0] 85)
 have h2:=World.alloc_heap_new ((w.alloc (Obj.cells (List.toArray ((kK c.f0 c.f1 (qL c.f2 (qL c.f3 (sL c.f4 (fL c.f5 (kS c.f6 (mL c.f7 [.slice A c.f8.length c0]))))))))) 60)).alloc (Obj.cells #[.string t.f0,.string t.f1,.string t.f2] 25)) (Obj.cells #[.slice none 0 0,.slice none 0 0,.string ⟨#[]⟩,.string ⟨#[]⟩,.string ⟨#[]⟩,.string c.f4.f0.f0,.string c.f4.f0.f1,.string c.f4.f0.f2,.int .i64 c.f1,.int .i64 0,.int .i64 0,.int .i64 0,.int .i64 0,.int .i64 0,.string ⟨#[]⟩,.string ⟨#[]⟩,.string ⟨#[]⟩,.slice none 0 0,.slice none 0 0] 85)
 rw [World.size_alloc] at h1
 rw [World.size_alloc,World.size_alloc] at h2
 have k10 : (c.f0 == 10) = false:=by rw [hk];rfl
 have k9 : (c.f0 == 9) = true:=by rw [hk];rfl
 have k0 : (c.f2.f0 != 0) = false:=by rw [ht];rfl
 have HCA:=aq hC
 have HLN:=aq hlen
 obtain ⟨n,hn⟩ : ∃ n,n = c.f8.length:=⟨_,rfl⟩
 have HMK : Aside0 (MkOwn ((((w.alloc (Obj.cells (List.toArray ((kK c.f0 c.f1 (qL c.f2 (qL c.f3 (sL c.f4 (fL c.f5 (kS c.f6 (mL c.f7 [.slice A c.f8.length c0]))))))))) 60)).alloc (Obj.cells #[.string t.f0,.string t.f1,.string t.f2] 25))).alloc (Obj.cells #[.slice none 0 0,.slice none 0 0,.string ⟨#[]⟩,.string ⟨#[]⟩,.string ⟨#[]⟩,.string c.f4.f0.f0,.string c.f4.f0.f1,.string c.f4.f0.f2,.int .i64 c.f1,.int .i64 0,.int .i64 0,.int .i64 0,.int .i64 0,.int .i64 0,.string ⟨#[]⟩,.string ⟨#[]⟩,.string ⟨#[]⟩,.slice none 0 0,.slice none 0 0] 85)) (w.heap.size + 2) (w.heap.size + 2) (.slice none 0 0) (.slice none 0 0) (.string ⟨#[]⟩) (.string ⟨#[]⟩) (.string ⟨#[]⟩) c.f4.f0 c.f1 (.int .i64 0) (.int .i64 0) (.int .i64 0) (.int .i64 0) (.int .i64 0) (.string ⟨#[]⟩) (.string ⟨#[]⟩) (.string ⟨#[]⟩) (.slice none 0 0) (.slice none 0 0) (passAll c t 0)):=⟨⟨h2,Nat.le_refl _,Kd.R_nil _ _ _ _ _⟩⟩
 have H0:=aq h0
 have H1:=aq h1
 have HAB:=aq hab
 have HSZ : Aside0 (((((w.alloc (Obj.cells (List.toArray ((kK c.f0 c.f1 (qL c.f2 (qL c.f3 (sL c.f4 (fL c.f5 (kS c.f6 (mL c.f7 [.slice A c.f8.length c0]))))))))) 60)).alloc (Obj.cells #[.string t.f0,.string t.f1,.string t.f2] 25))).alloc (Obj.cells #[.slice none 0 0,.slice none 0 0,.string ⟨#[]⟩,.string ⟨#[]⟩,.string ⟨#[]⟩,.string c.f4.f0.f0,.string c.f4.f0.f1,.string c.f4.f0.f2,.int .i64 c.f1,.int .i64 0,.int .i64 0,.int .i64 0,.int .i64 0,.int .i64 0,.string ⟨#[]⟩,.string ⟨#[]⟩,.string ⟨#[]⟩,.slice none 0 0,.slice none 0 0] 85)).heap.size = w.heap.size + 3):=⟨by rw [World.size_alloc,World.size_alloc,World.size_alloc]⟩
 clear hk ht hC h0 h1 h2 hlen hab
 go_enter Try.func24,Try.ntmps24
 go_wp2_with fail
 generalize ((((w.alloc (Obj.cells (List.toArray ((kK c.f0 c.f1 (qL c.f2 (qL c.f3 (sL c.f4 (fL c.f5 (kS c.f6 (mL c.f7 [.slice A c.f8.length c0]))))))))) 60)).alloc (Obj.cells #[.string t.f0,.string t.f1,.string t.f2] 25))).alloc (Obj.cells #[.slice none 0 0,.slice none 0 0,.string ⟨#[]⟩,.string ⟨#[]⟩,.string ⟨#[]⟩,.string c.f4.f0.f0,.string c.f4.f0.f1,.string c.f4.f0.f2,.int .i64 c.f1,.int .i64 0,.int .i64 0,.int .i64 0,.int .i64 0,.int .i64 0,.string ⟨#[]⟩,.string ⟨#[]⟩,.string ⟨#[]⟩,.slice none 0 0,.slice none 0 0] 85)) = W2 at HMK H0 H1 HAB HSZ ⊢
 generalize Value.agg (List.toArray ((kK c.f0 c.f1 (qL c.f2 (qL c.f3 (sL c.f4 (fL c.f5 (kS c.f6 (mL c.f7 [.slice A c.f8.length c0]))))))))) = cv
 rw [← hn]
 have HNN:=aq hn
 clear hn
 go_loopg [24] n (fun kq v24 wr => ∃ (i : Nat) (v : Value),v24 = .int .i64 (i : Int) ∧ i + kq = n ∧ Aside0 (MkOwn wr (w.heap.size + 2) (w.heap.size + 2) (.slice none 0 0) (.slice none 0 0) (.string ⟨#[]⟩) (.string ⟨#[]⟩) (.string ⟨#[]⟩) c.f4.f0 c.f1 (.int .i64 0) (.int .i64 0) (.int .i64 0) (.int .i64 0) (.int .i64 0) (.string ⟨#[]⟩) (.string ⟨#[]⟩) (.string ⟨#[]⟩) (.slice none 0 0) v (passAll c t i)) ∧ Aside0 (Below (w.heap.size + 2) W2 wr))
 case atStart => exact ⟨0,.slice none 0 0,rfl,by omega,HMK,⟨Below.refl _ _⟩⟩
 case round =>
  obtain ⟨i,v,rfl,hi,HM,HBL⟩:=hrel
  have b0:=(HBL.out.block w.heap.size (by omega)).trans H0.out
  have b1:=(HBL.out.block (w.heap.size + 1) (by omega)).trans H1.out
  by_cases hlt : i < n
  ·
   have hltX : i < c.f8.length:=by rw [← HNN.out];exact hlt
   have HCR:=aq (Kd.C_below HCA.out ((HAB.out).trans (HBL.out.mono (by omega))))
   obtain ⟨ad,hA,hcell⟩:=int_at HCR.out i hltX
   obtain ⟨x,hx⟩ : ∃ x,c.f8.getD i 0 = x:=⟨_,rfl⟩
   rw [hx] at hcell
   subst hA
   have HBX : Aside0 (Below (w.heap.size + 2) W2 wr.drew):=⟨HBL.out.trans (below_drew1 (Below.refl _ _))⟩
   have HMX : Aside0 (MkOwn wr.drew (w.heap.size + 2) (w.heap.size + 2) (.slice none 0 0) (.slice none 0 0) (.string ⟨#[]⟩) (.string ⟨#[]⟩) (.string ⟨#[]⟩) c.f4.f0 c.f1 (.int .i64 0) (.int .i64 0) (.int .i64 0) (.int .i64 0) (.int .i64 0) (.string ⟨#[]⟩) (.string ⟨#[]⟩) (.string ⟨#[]⟩) (.slice none 0 0) v (passAll c t i)):=⟨HM.out.below (below_drew1 (Below.refl _ _)) (Nat.le_trans (by have:=HSZ.out;omega) HBL.out.size)⟩
   have HSX : Aside0 (w.heap.size + 2 ≤ wr.drew.heap.size):=⟨Nat.le_trans (by have:=HSZ.out;omega) HBX.out.size⟩
   have HLI : Aside0 ((passAll c t i).length ≤ 1048576):=⟨by unfold passAll;rw [List.length_map,List.length_range];have:=HLN.out;omega⟩
   have z0 : wr.drew.cell? ⟨w.heap.size,37,none⟩ = some (.slice (some ad) n c0):=by rw [HNN.out];exact blk_cell b0 37
   have z1 : wr.drew.cell? ⟨w.heap.size + 1,0,none⟩ = some (.string t.f0):=blk_cell b1 0
   have z2 : wr.drew.cell? ⟨w.heap.size + 1,1,none⟩ = some (.string t.f1):=blk_cell b1 1
   have z3 : wr.drew.cell? ⟨w.heap.size + 1,2,none⟩ = some (.string t.f2):=blk_cell b1 2
   have z4 : wr.drew.cell? (ad.add i) = some (.int .i64 x):=hcell
   have hd : decide ((i : Int) < (n : Int)) = true:=decide_eq_true (by omega)
   have hi0 : (0 : Int) ≤ (i : Int):=by omega
   have hi1 : (i : Int) < (n : Int):=by omega
   have hg0 : decide ((i : Int) ≥ 0) = true:=decide_eq_true (by omega)
   have HLT:=aq hlt
   have HX:=aq hx
   clear b0 b1 hltX hcell hx
   go_wp2_with fail
   refine start_ (n:=12) (S:=fun w' => w'.cell? ⟨w.heap.size,37,none⟩ = some (.slice (some ad) n c0) ∧ w'.cell? ⟨w.heap.size + 1,0,none⟩ = some (.string t.f0) ∧ w'.cell? ⟨w.heap.size + 1,1,none⟩ = some (.string t.f1) ∧ w'.cell? ⟨w.heap.size + 1,2,none⟩ = some (.string t.f2) ∧ w'.cell? (ad.add i) = some (.int .i64 x)) (ds:=[11]) (Array.replicate 12 false) (by kernel_rfl) rfl rfl ⟨z0,z1,z2,z3,z4⟩ (fun hHeld => ?_)
   generalize wr.drew = X at HMX HSX HBX z0 z1 z2 z3 z4 hHeld ⊢
   refine sP (i:=0) (N:=some 30) ?_
   refine sP (i:=2) (N:=some 32) ?_
   refine sP (i:=4) (N:=some 34) ?_
   refine sP (i:=5) (N:=some 35) ?_
   refine sP (i:=7) (N:=some 37) ?_
   refine sT (i:=1) (N:=some 31) hHeld ?_
   refine sT (i:=6) (N:=some 36) hHeld ?_
   refine sP (i:=8) (N:=some 38) ?_
   refine sT (i:=9) (N:=some 39) hHeld ?_
   refine sO (i:=3) (N:=some 33) fun K hK => ?_
   refine sG Try.func13 #[.agg #[.string t.f0,.string t.f1,.string t.f2],.int .i64 (i : Int)] ?_
   refine (Q43.gen_Reg.calls t.f0 t.f1 t.f2 (i : Int) 1 t.f0 t.f1 t.f2 (i : Int) ⟨#[]⟩ ⟨#[]⟩ ⟨#[]⟩ ⟨#[]⟩ ⟨#[]⟩ 0 ⟨#[]⟩ X rfl).mono ?_
   rintro e w4 ⟨rfl,hb⟩
   refine ⟨_,rfl,?_⟩
   have y0:=sC hb z0
   have y1:=sC hb z1
   have y2:=sC hb z2
   have y3:=sC hb z3
   have y4:=sC hb z4
   have HM4:=aq (HMX.out.below hb HSX.out)
   have HB4:=aq hb
   clear hb
   refine hK.out _ _ ⟨y0,y1,y2,y3,y4⟩ (fun hHeld => ?_)
   clear hK K
   refine sN ?_
   refine sO (i:=10) (N:=some 40) fun K hK => ?_
   refine sG Try.func38 #[.pointer (some ⟨w.heap.size + 2,0,none⟩),.int .i64 x] ?_
   refine (maker_reg (w.heap.size + 2) (.slice none 0 0) (.slice none 0 0) (.string ⟨#[]⟩) (.string ⟨#[]⟩) (.string ⟨#[]⟩) c.f4.f0 c.f1 (.int .i64 0) (.int .i64 0) (.int .i64 0) (.int .i64 0) (.int .i64 0) (.string ⟨#[]⟩) (.string ⟨#[]⟩) (.string ⟨#[]⟩) (.slice none 0 0) v x w4 HM4.out.b).mono ?_
   rintro e w5 ⟨rfl,hb⟩
   refine ⟨_,rfl,?_⟩
   have x0:=sC hb y0
   have x1:=sC hb y1
   have x2:=sC hb y2
   have x3:=sC hb y3
   have x4:=sC hb y4
   have HM5:=aq (HM4.out.below hb (Nat.le_trans HSX.out HB4.out.size))
   have HB5:=aq (below_step HB4.out hb)
   clear hb
   refine hK.out _ _ ⟨x0,x1,x2,x3,x4⟩ (fun hHeld => ?_)
   clear hK K
   refine sN ?_
   refine sX (i:=11) (N:=some 41) fun K hK => ?_
   refine sG Try.func37 #[.pointer (some ⟨w.heap.size + 2,0,none⟩),.agg (List.toArray (qR 1 t (i : Int) [])),.agg (List.toArray (qR 1 c.f4.f0 x [])),.string ⟨#[]⟩] ?_
   refine (maker_flows (w.heap.size + 2) (w.heap.size + 2) (.slice none 0 0) (.slice none 0 0) (.string ⟨#[]⟩) (.string ⟨#[]⟩) (.string ⟨#[]⟩) c.f4.f0 c.f1 (.int .i64 0) (.int .i64 0) (.int .i64 0) (.int .i64 0) (.int .i64 0) (.string ⟨#[]⟩) (.string ⟨#[]⟩) (.string ⟨#[]⟩) (.slice none 0 0) v (passAll c t i) (⟨1,t,(i : Int),z44,z46⟩ : S50) (⟨1,c.f4.f0,x,z44,z46⟩ : S50) ⟨#[]⟩ w5 HM5.out HLI.out (Nat.le_trans HSX.out HB5.out.size)).mono ?_
   rintro e w6 ⟨v6,rfl,hm6,hb6,hk6⟩
   refine ⟨_,rfl,?_⟩
   have HM6:=aq hm6
   have HB6:=aq (HBX.out.trans ((HB5.out.mono HSX.out).trans hb6))
   clear hm6 hb6 hk6
   refine hK.out _ _ ?_
   clear hK K
   refine sN ?_
   refine done_ (by kernel_rfl) ?_
   go_wp2_with fail
   go_roundg (gk - 1)
   case measure => omega
   case rel => exact ⟨i + 1,v6,by rw [show wrap64 ((i : Int) + 1) = ((i + 1 : Nat) : Int) from by have h1:=HLN.out;have h2:=HNN.out;have h3:=HLT.out;unfold wrap64;omega],by omega,⟨by rw [passAll_succ];unfold passL;rw [HX.out];exact HM6.out⟩,HB6⟩
  ·
   have hd : decide ((i : Int) < (n : Int)) = false:=decide_eq_false (by omega)
   obtain rfl : i = n:=by omega
   have e2 : wr.cell? ⟨w.heap.size,2,none⟩ = some (.int .i64 c.f2.f0):=blk_cell b0 2
   have s18 : wr.cell? ⟨w.heap.size + 2,18,none⟩ = some v:=blk_cell HM.out.b 18
   have HFIN:=aq (Kd.R_lower HM.out.r (show w.heap.size ≤ w.heap.size + 2 by omega))
   have HBF:=aq (HAB.out.trans (HBL.out.mono (show w.heap.size ≤ w.heap.size + 2 by omega)))
   clear b0 b1
   go_wp2_with fail
   exact bodyPost_ret (results_tmp rfl _ _ _) rfl ⟨v,rfl,by rw [← HNN.out];exact HFIN.out,HBF.out⟩
theorem row_of {α : Type} {kd : Kd α} {w : World} {g : Nat} {t : TypeId} {xs : List α} {cells : Array Value} (h : w.heap[g]? = some (Obj.cells cells t (0, 0))) (hn : xs.length ≤ 9223372036854775807)
  (hsz : cells.size = xs.length * kd.sz) (hk : ∀ j p,xs[j]? = some p → kd.K w p ((cells.toList.drop (j * kd.sz)).take kd.sz)) : Kd.C kd w (some ⟨g,0,none⟩) xs.length xs:=by
 refine ⟨rfl,hn,fun _ => ⟨⟨g,0,none⟩,rfl,fun j p hj => ?_⟩⟩
 have hjl:=(List.getElem?_eq_some_iff.1 hj).1
 refine ⟨(cells.toList.drop (j * kd.sz)).take kd.sz,?_,hk j p hj,fun i u hu => ?_⟩
 ·
  rw [List.length_take,List.length_drop,Array.length_toList,hsz]
  have h1 : (j + 1) * kd.sz ≤ xs.length * kd.sz:=Nat.mul_le_mul_right _ hjl
  rw [Nat.succ_mul] at h1
  omega
 ·
  rw [List.getElem?_take] at hu
  split at hu
  ·
   rw [List.getElem?_drop,Array.getElem?_toList] at hu
   have hb:=blk_cell h (j * kd.sz + i)
   rw [hu] at hb
   have ha : (⟨g,0,none⟩ : Addr).add (j * kd.sz + i) = ⟨g,j * kd.sz + i,none⟩:=by unfold Addr.add;split <;> simp_all
   exact ha ▸ hb
  ·
   cases hu
def liveI0 : S74 := ⟨9, 0, 0, 0, 0, ⟨#[65]⟩, ⟨#[]⟩, ⟨#[]⟩, []⟩
def liveI1 : S74 := ⟨25, 1, 0, 0, 0, ⟨#[65]⟩, ⟨#[]⟩, ⟨#[]⟩, []⟩
def liveI2 : S74 := ⟨23, 0, 0, 0, 0, ⟨#[]⟩, ⟨#[]⟩, ⟨#[]⟩, []⟩
def liveM : S37 := ⟨⟨#[109]⟩, ⟨#[40, 41, 86]⟩, true, false, 2, [liveI0, liveI1, liveI2]⟩
def liveC : S33 := ⟨⟨#[65]⟩, ⟨#[]⟩, false, false, [], [], [liveM]⟩
theorem live_row {w : World} {gK gM gC : Nat} (hK : w.heap[gK]? = some (Obj.cells #[.int .i64 9, .int .i64 0, .int .i64 0, .int .i64 0, .int .i64 0, .string ⟨#[65]⟩, .string ⟨#[]⟩, .string ⟨#[]⟩, .slice none 0 0, .int .i64 25, .int .i64 1, .int .i64 0, .int .i64 0, .int .i64 0, .string ⟨#[65]⟩, .string ⟨#[]⟩, .string ⟨#[]⟩, .slice none 0 0, .int .i64 23, .int .i64 0, .int .i64 0, .int .i64 0, .int .i64 0, .string ⟨#[]⟩, .string ⟨#[]⟩, .string ⟨#[]⟩, .slice none 0 0] 74)) (hM : w.heap[gM]? = some (Obj.cells #[.string ⟨#[109]⟩, .string ⟨#[40, 41, 86]⟩, .bool true, .bool false, .int .i64 2, .slice (some ⟨gK, 0, none⟩) 3 3] 37)) (hC : w.heap[gC]? = some (Obj.cells #[.string ⟨#[65]⟩, .string ⟨#[]⟩, .bool false, .bool false, .slice none 0 0, .slice none 0 0, .slice (some ⟨gM, 0, none⟩) 1 1] 33)) : Kd.C k33 w (some ⟨gC, 0, none⟩) [liveC].length [liveC] := by
 have h1 : Kd.C k74 w (some ⟨gK,0,none⟩) [liveI0,liveI1,liveI2].length [liveI0,liveI1,liveI2]:=row_of hK (by decide) rfl (fun j p hj => by
  match j,hj with
  | 0,hj =>
   obtain rfl : liveI0 = p:=by simpa using hj
   exact k74_mk w liveI0 (A8:=none) (c8:=0) (Nat.le_refl _) (Kd.C_nil _ _)
  | 1,hj =>
   obtain rfl : liveI1 = p:=by simpa using hj
   exact k74_mk w liveI1 (A8:=none) (c8:=0) (Nat.le_refl _) (Kd.C_nil _ _)
  | 2,hj =>
   obtain rfl : liveI2 = p:=by simpa using hj
   exact k74_mk w liveI2 (A8:=none) (c8:=0) (Nat.le_refl _) (Kd.C_nil _ _)
  | j + 3,hj => simp at hj)
 have h2 : Kd.C k37 w (some ⟨gM,0,none⟩) [liveM].length [liveM]:=row_of hM (by decide) rfl (fun j p hj => by
  match j,hj with
  | 0,hj =>
   obtain rfl : liveM = p:=by simpa using hj
   exact k37_mk w liveM (A5:=some ⟨gK,0,none⟩) (c5:=3) (Nat.le_refl _) h1
  | j + 1,hj => simp at hj)
 exact row_of hC (by decide) rfl (fun j p hj => by
  match j,hj with
  | 0,hj =>
   obtain rfl : liveC = p:=by simpa using hj
   exact k33_mk w liveC (A4:=none) (c4:=0) (Nat.le_refl _) (Kd.C_nil _ _) (A5:=none) (c5:=0) (Nat.le_refl _) (Kd.C_nil _ _) (A6:=some ⟨gM,0,none⟩) (c6:=1) (Nat.le_refl _) h2
  | j + 1,hj => simp at hj)
theorem live_rowF {w : World} {gK gM gC : Nat} (hK : w.heap[gK]? = some (Obj.cells #[.int .i64 9, .int .i64 0, .int .i64 0, .int .i64 0, .int .i64 0, .string ⟨#[65]⟩, .string ⟨#[]⟩, .string ⟨#[]⟩, .slice none 0 0, .int .i64 25, .int .i64 1, .int .i64 0, .int .i64 0, .int .i64 0, .string ⟨#[65]⟩, .string ⟨#[]⟩, .string ⟨#[]⟩, .slice none 0 0, .int .i64 23, .int .i64 0, .int .i64 0, .int .i64 0, .int .i64 0, .string ⟨#[]⟩, .string ⟨#[]⟩, .string ⟨#[]⟩, .slice none 0 0] 74)) (hM : w.heap[gM]? = some (Obj.cells #[.string ⟨#[109]⟩, .string ⟨#[40, 41, 86]⟩, .bool true, .bool false, .int .i64 2, .slice (some ⟨gK, 0, none⟩) 3 3] 37)) (hC : w.heap[gC]? = some (Obj.cells #[.string ⟨#[65]⟩, .string ⟨#[]⟩, .bool false, .bool false, .slice none 0 0, .slice none 0 0, .slice (some ⟨gM, 0, none⟩) 1 1] 33)) : Kd.F k33 w (fun _ => True) (some ⟨gC, 0, none⟩) [liveC].length [liveC] := fun W' hW =>
 live_row ((hW gK trivial (blk_lt hK)).trans hK) ((hW gM trivial (blk_lt hM)).trans hM) ((hW gC trivial (blk_lt hC)).trans hC)
def lm : S25 := ⟨⟨#[65]⟩, ⟨#[109]⟩, ⟨#[40, 41, 86]⟩⟩
def liveL (i : Nat) : List S60 := match i with
 | 0 => [⟨7,0,z50,z50,⟨lm,0,⟨#[]⟩⟩,z44,⟨#[65]⟩,z25,[]⟩,⟨1,0,⟨1,lm,0,z44,z46⟩,z50,⟨lm,0,⟨#[65]⟩⟩,z44,⟨#[]⟩,z25,[]⟩]
 | 1 => [⟨2,1,⟨1,lm,1,z44,z46⟩,⟨1,lm,0,z44,z46⟩,⟨lm,0,⟨#[]⟩⟩,z44,⟨#[65]⟩,z25,[]⟩]
 | _ => []
theorem live_get : getM [liveC] ⟨#[65]⟩ ⟨#[109]⟩ ⟨#[40, 41, 86]⟩ = liveM := by kernel_rfl
theorem live_puts (a0 a1 a2 a3 a4 : Value) : ∀ i (h : i < liveM.f5.length), Puts a0 a1 a2 a3 a4 lm (i : Int) (liveM.f5[i]) (liveL i) := fun i h => by
 match i,h with
 | 0,h => exact fun g A8 c8 v l W hm _ _ hl hg => (instr_new g g a0 a1 a2 a3 a4 lm 0 0 0 0 0 ⟨#[65]⟩ ⟨#[]⟩ ⟨#[]⟩ A8 0 c8 v l W hm hl hg).mono (fun e w' ⟨v',he,h1,h2,_⟩ => ⟨v',he,by rw [List.append_assoc] at h1;exact h1,h2⟩)
 | 1,h => exact fun g A8 c8 v l W hm _ _ hl hg => (instr_cast g g a0 a1 a2 a3 a4 lm 1 1 0 0 0 ⟨#[65]⟩ ⟨#[]⟩ ⟨#[]⟩ A8 0 c8 v l W hm hl hg).mono (fun e w' ⟨v',he,h1,h2,_⟩ => ⟨v',he,h1,h2⟩)
 | 2,h => exact fun g A8 c8 v l W hm _ _ hl hg => (instr_end g g a0 a1 a2 a3 a4 lm 2 0 0 0 0 ⟨#[]⟩ ⟨#[]⟩ ⟨#[]⟩ A8 0 c8 v l W hm hl hg).mono (fun e w' ⟨v',he,h1,h2,_⟩ => ⟨v',he,by show MkOwn _ _ _ _ _ _ _ _ _ _ _ _ _ _ _ _ _ _ _ _ (l ++ []);rw [List.append_nil];exact h1,h2⟩)
 | i + 3,h => exact absurd h (by show ¬ (i + 3 < 3);omega)
theorem live_len : ∀ i, i ≤ liveM.f5.length → (allOf liveL i).length + 2 ≤ 1048576 := fun i h => by
 match i,h with
 | 0,_ => decide
 | 1,_ => decide
 | 2,_ => decide
 | 3,_ => decide
 | i + 4,h => exact absurd h (by show ¬ (i + 4 ≤ 3);omega)
theorem live_of {W : World} {gK gM gC : Nat} (hK : W.heap[gK]? = some (Obj.cells #[.int .i64 9, .int .i64 0, .int .i64 0, .int .i64 0, .int .i64 0, .string ⟨#[65]⟩, .string ⟨#[]⟩, .string ⟨#[]⟩, .slice none 0 0, .int .i64 25, .int .i64 1, .int .i64 0, .int .i64 0, .int .i64 0, .string ⟨#[65]⟩, .string ⟨#[]⟩, .string ⟨#[]⟩, .slice none 0 0, .int .i64 23, .int .i64 0, .int .i64 0, .int .i64 0, .int .i64 0, .string ⟨#[]⟩, .string ⟨#[]⟩, .string ⟨#[]⟩, .slice none 0 0] 74)) (hM : W.heap[gM]? = some (Obj.cells #[.string ⟨#[109]⟩, .string ⟨#[40, 41, 86]⟩, .bool true, .bool false, .int .i64 2, .slice (some ⟨gK, 0, none⟩) 3 3] 37)) (hC : W.heap[gC]? = some (Obj.cells #[.string ⟨#[65]⟩, .string ⟨#[]⟩, .bool false, .bool false, .slice none 0 0, .slice none 0 0, .slice (some ⟨gM, 0, none⟩) 1 1] 33)) :
  Calls Try.prog 29 #[.agg #[.slice (some ⟨gC,0,none⟩) 1 1,.slice none 0 0,.string ⟨#[]⟩,.string ⟨#[]⟩,.string ⟨#[]⟩],.agg #[.string ⟨#[65]⟩,.string ⟨#[109]⟩,.string ⟨#[40,41,86]⟩]] W fun e w' => ∃ v',e = .returned v' ∧ Kd.R k60 60 w' W.heap.size (fun _ => True) v' (allOf liveL 3) ∧ Below W.heap.size W w':=by
 have h:=gen_of (fun _ => True) (some ⟨gC,0,none⟩) 1 [liveC] none 0 [] ⟨#[]⟩ ⟨#[]⟩ ⟨#[]⟩ ⟨#[65]⟩ ⟨#[109]⟩ ⟨#[40,41,86]⟩ W (live_rowF hK hM hC) (Nat.le_refl _) (Kd.C_nil _ _) (Nat.le_refl _) liveL (by rw [live_get];exact live_puts _ _ _ _ _) (by rw [live_get];exact live_len)
 rw [live_get] at h
 exact h
def liveP : S60 := ⟨9, 0, z50, z50, z46, z44, ⟨#[]⟩, z25, [0, 1]⟩
theorem live_pass (W : World) : Calls Try.prog 24 #[.agg (List.toArray ((kK 9 0 (qZ (qZ (sZ (fZ (kS ⟨#[]⟩ (mZ [.slice (some ⟨W.heap.size, 0, none⟩) 2 2]))))))))), .agg #[.string ⟨#[65]⟩, .string ⟨#[109]⟩, .string ⟨#[40, 41, 86]⟩]] (W.alloc (Obj.cells #[.int .i64 0, .int .i64 1] 3)) fun e w' => ∃ v', e = .returned v' ∧ Kd.R k60 60 w' (W.alloc (Obj.cells #[.int .i64 0, .int .i64 1] 3)).heap.size (fun _ => True) v' (passAll liveP lm 2) ∧ Below (W.alloc (Obj.cells #[.int .i64 0, .int .i64 1] 3)).heap.size (W.alloc (Obj.cells #[.int .i64 0, .int .i64 1] 3)) w' :=
 gen_pass liveP (some ⟨W.heap.size,0,none⟩) 2 lm (W.alloc (Obj.cells #[.int .i64 0,.int .i64 1] 3)) rfl rfl
  (row_of (xs:=[0,1]) (World.alloc_heap_new W _) (by decide) rfl (fun j p hj => by
   match j,hj with
   | 0,hj =>
    obtain rfl : (0 : Int) = p:=by simpa using hj
    rfl
   | 1,hj =>
    obtain rfl : (1 : Int) = p:=by simpa using hj
    rfl
   | j + 2,hj => simp at hj)) (Nat.le_refl _) (by decide)
structure L7 (W : World) (n0 n1 n2 : Nat) (ad : Addr) : Prop where
 m : W.heap[n0]? = some (Obj.cells #[.string ⟨#[65]⟩,.string ⟨#[109]⟩,.string ⟨#[40,41,86]⟩] 25)
 s : W.heap[n1]? = some (Obj.cells #[.string ⟨#[65]⟩,.string ⟨#[109]⟩,.string ⟨#[40,41,86]⟩,.int .i64 0,.string ⟨#[65]⟩] 46)
 f : W.heap[n2]? = some (Obj.cells #[.string ⟨#[65]⟩,.string ⟨#[102]⟩] 44)
 r : Kd.C k60 W (some ad) 3 (allOf liveL 3)
theorem L7.below {W W' : World} {n0 n1 n2 : Nat} {ad : Addr} (h : L7 W n0 n1 n2 ad) (hb : Below W.heap.size W W') : L7 W' n0 n1 n2 ad := ⟨blk_below h.m hb, blk_below h.s hb, blk_below h.f hb, Kd.C_below h.r hb⟩
theorem L7.S {W : World} {n0 n1 n2 : Nat} {ad : Addr} (h : L7 W n0 n1 n2 ad) : W.cell? ⟨n0, 0, none⟩ = some (.string ⟨#[65]⟩) ∧ W.cell? ⟨n0, 1, none⟩ = some (.string ⟨#[109]⟩) ∧ W.cell? ⟨n0, 2, none⟩ = some (.string ⟨#[40, 41, 86]⟩) ∧ W.cell? ⟨n1, 0, none⟩ = some (.string ⟨#[65]⟩) ∧ W.cell? ⟨n1, 1, none⟩ = some (.string ⟨#[109]⟩) ∧ W.cell? ⟨n1, 2, none⟩ = some (.string ⟨#[40, 41, 86]⟩) ∧ W.cell? ⟨n1, 3, none⟩ = some (.int .i64 0) ∧ W.cell? ⟨n1, 4, none⟩ = some (.string ⟨#[65]⟩) ∧ W.cell? ⟨n2, 0, none⟩ = some (.string ⟨#[65]⟩) ∧ W.cell? ⟨n2, 1, none⟩ = some (.string ⟨#[102]⟩) ∧ W.cell? ad = some (.int .i64 7) ∧ W.cell? ⟨ad.block, ad.off + 38, none⟩ = some (.int .i64 1) ∧ W.cell? ⟨ad.block, ad.off + 38 + 26, none⟩ = some (.string ⟨#[65]⟩) ∧ W.cell? ⟨ad.block, ad.off + 38 + 27, none⟩ = some (.string ⟨#[109]⟩) ∧ W.cell? ⟨ad.block, ad.off + 38 + 28, none⟩ = some (.string ⟨#[40, 41, 86]⟩) ∧ W.cell? ⟨ad.block, ad.off + 38 + 29, none⟩ = some (.int .i64 0) ∧ W.cell? ⟨ad.block, ad.off + 38 + 30, none⟩ = some (.string ⟨#[65]⟩) ∧ W.cell? ⟨ad.block, ad.off + 76 + 33, none⟩ = some (.string ⟨#[65]⟩) ∧ W.cell? ⟨ad.block, ad.off + 76 + 2, none⟩ = some (.int .i64 1) ∧ W.cell? ⟨ad.block, ad.off + 76 + 3, none⟩ = some (.string ⟨#[65]⟩) ∧ W.cell? ⟨ad.block, ad.off + 76 + 4, none⟩ = some (.string ⟨#[109]⟩) ∧ W.cell? ⟨ad.block, ad.off + 76 + 5, none⟩ = some (.string ⟨#[40, 41, 86]⟩) ∧ W.cell? ⟨ad.block, ad.off + 76 + 6, none⟩ = some (.int .i64 1) ∧ W.cell? ⟨ad.block, ad.off + 76 + 7, none⟩ = some (.string ⟨#[]⟩) ∧ W.cell? ⟨ad.block, ad.off + 76 + 8, none⟩ = some (.string ⟨#[]⟩) ∧ W.cell? ⟨ad.block, ad.off + 76 + 9, none⟩ = some (.string ⟨#[]⟩) ∧ W.cell? ⟨ad.block, ad.off + 76 + 10, none⟩ = some (.string ⟨#[]⟩) ∧ W.cell? ⟨ad.block, ad.off + 76 + 11, none⟩ = some (.string ⟨#[]⟩) ∧ W.cell? ⟨ad.block, ad.off + 76 + 12, none⟩ = some (.int .i64 0) ∧ W.cell? ⟨ad.block, ad.off + 76 + 13, none⟩ = some (.string ⟨#[]⟩) := by
 obtain ⟨a0,_,_,h0,x0,x1,x2,x3,x4,x5,x6,x7,x8,x9,x10,x11,x12,x13,x14,x15,x16,x17,x18,x19,x20,x21,x22,x23,x24,x25,x26,x27,x28,x29,x30,x31,x32,x33,x34,x35,x36,x37,_⟩:=at_T60 h.r 0 (by decide) (by decide)
 obtain ⟨a1,_,_,h1,y0,y1,y2,y3,y4,y5,y6,y7,y8,y9,y10,y11,y12,y13,y14,y15,y16,y17,y18,y19,y20,y21,y22,y23,y24,y25,y26,y27,y28,y29,y30,y31,y32,y33,y34,y35,y36,y37,_⟩:=at_T60 h.r 1 (by decide) (by decide)
 obtain ⟨a2,_,_,h2,z0,z1,z2,z3,z4,z5,z6,z7,z8,z9,z10,z11,z12,z13,z14,z15,z16,z17,z18,z19,z20,z21,z22,z23,z24,z25,z26,z27,z28,z29,z30,z31,z32,z33,z34,z35,z36,z37,_⟩:=at_T60 h.r 2 (by decide) (by decide)
 obtain rfl:=Option.some.inj h0
 obtain rfl:=Option.some.inj h1
 obtain rfl:=Option.some.inj h2
 exact ⟨blk_cell h.m 0,blk_cell h.m 1,blk_cell h.m 2,blk_cell h.s 0,blk_cell h.s 1,blk_cell h.s 2,blk_cell h.s 3,blk_cell h.s 4,blk_cell h.f 0,blk_cell h.f 1,x0,y0,y26,y27,y28,y29,y30,z33,z2,z3,z4,z5,z6,z7,z8,z9,z10,z11,z12,z13⟩
theorem fld_0 (W : World) (a b c d e f g h i j k l : Value) : Sem.run Try.prog (Instr.field 50 (.agg #[a,b,c,d,e,f,g,h,i,j,k,l]) 0) W = .ok a W := by kernel_rfl
theorem fld_3 (W : World) (a b c d e f g h i j k l : Value) : Sem.run Try.prog (Instr.field 50 (.agg #[a,b,c,d,e,f,g,h,i,j,k,l]) 3) W = .ok (.agg #[f,g]) W := by kernel_rfl
theorem fld_4 (W : World) (a b c d e f g h i j k l : Value) : Sem.run Try.prog (Instr.field 50 (.agg #[a,b,c,d,e,f,g,h,i,j,k,l]) 4) W = .ok (.agg #[h,i,j,k,l]) W := by kernel_rfl
theorem gen_live (w : World) : Calls Try.prog 12 #[] w fun e w' => e = .returned (.bool true) ∧ Below w.heap.size w w' := by
 have hb0:=below_alloc (below_alloc (below_alloc (below_alloc (below_alloc (Below.refl w.heap.size w) (Obj.cells #[.string ⟨#[65]⟩,.string ⟨#[109]⟩,.string ⟨#[40,41,86]⟩] 25)) (Obj.cells #[.int .i64 9,.int .i64 0,.int .i64 0,.int .i64 0,.int .i64 0,.string ⟨#[65]⟩,.string ⟨#[]⟩,.string ⟨#[]⟩,.slice none 0 0,.int .i64 25,.int .i64 1,.int .i64 0,.int .i64 0,.int .i64 0,.string ⟨#[65]⟩,.string ⟨#[]⟩,.string ⟨#[]⟩,.slice none 0 0,.int .i64 23,.int .i64 0,.int .i64 0,.int .i64 0,.int .i64 0,.string ⟨#[]⟩,.string ⟨#[]⟩,.string ⟨#[]⟩,.slice none 0 0] 74)) (Obj.cells #[.string ⟨#[109]⟩,.string ⟨#[40,41,86]⟩,.bool true,.bool false,.int .i64 2,.slice (some ⟨w.heap.size + 1,0,none⟩) 3 3] 37)) (Obj.cells #[.string ⟨#[65]⟩,.string ⟨#[]⟩,.bool false,.bool false,.slice none 0 0,.slice none 0 0,.slice (some ⟨w.heap.size + 1 + 1,0,none⟩) 1 1] 33)) (Obj.cells #[.slice (some ⟨w.heap.size + 1 + 1 + 1,0,none⟩) 1 1,.slice none 0 0,.string ⟨#[]⟩,.string ⟨#[]⟩,.string ⟨#[]⟩] 27)
 have hm:=blk_alloc (blk_alloc (blk_alloc (blk_alloc (World.alloc_heap_new w (Obj.cells #[.string ⟨#[65]⟩,.string ⟨#[109]⟩,.string ⟨#[40,41,86]⟩] 25)) (Obj.cells #[.int .i64 9,.int .i64 0,.int .i64 0,.int .i64 0,.int .i64 0,.string ⟨#[65]⟩,.string ⟨#[]⟩,.string ⟨#[]⟩,.slice none 0 0,.int .i64 25,.int .i64 1,.int .i64 0,.int .i64 0,.int .i64 0,.string ⟨#[65]⟩,.string ⟨#[]⟩,.string ⟨#[]⟩,.slice none 0 0,.int .i64 23,.int .i64 0,.int .i64 0,.int .i64 0,.int .i64 0,.string ⟨#[]⟩,.string ⟨#[]⟩,.string ⟨#[]⟩,.slice none 0 0] 74)) (Obj.cells #[.string ⟨#[109]⟩,.string ⟨#[40,41,86]⟩,.bool true,.bool false,.int .i64 2,.slice (some ⟨w.heap.size + 1,0,none⟩) 3 3] 37)) (Obj.cells #[.string ⟨#[65]⟩,.string ⟨#[]⟩,.bool false,.bool false,.slice none 0 0,.slice none 0 0,.slice (some ⟨w.heap.size + 1 + 1,0,none⟩) 1 1] 33)) (Obj.cells #[.slice (some ⟨w.heap.size + 1 + 1 + 1,0,none⟩) 1 1,.slice none 0 0,.string ⟨#[]⟩,.string ⟨#[]⟩,.string ⟨#[]⟩] 27)
 have hk:=blk_alloc (blk_alloc (blk_alloc (World.alloc_heap_new (w.alloc (Obj.cells #[.string ⟨#[65]⟩,.string ⟨#[109]⟩,.string ⟨#[40,41,86]⟩] 25)) (Obj.cells #[.int .i64 9,.int .i64 0,.int .i64 0,.int .i64 0,.int .i64 0,.string ⟨#[65]⟩,.string ⟨#[]⟩,.string ⟨#[]⟩,.slice none 0 0,.int .i64 25,.int .i64 1,.int .i64 0,.int .i64 0,.int .i64 0,.string ⟨#[65]⟩,.string ⟨#[]⟩,.string ⟨#[]⟩,.slice none 0 0,.int .i64 23,.int .i64 0,.int .i64 0,.int .i64 0,.int .i64 0,.string ⟨#[]⟩,.string ⟨#[]⟩,.string ⟨#[]⟩,.slice none 0 0] 74)) (Obj.cells #[.string ⟨#[109]⟩,.string ⟨#[40,41,86]⟩,.bool true,.bool false,.int .i64 2,.slice (some ⟨w.heap.size + 1,0,none⟩) 3 3] 37)) (Obj.cells #[.string ⟨#[65]⟩,.string ⟨#[]⟩,.bool false,.bool false,.slice none 0 0,.slice none 0 0,.slice (some ⟨w.heap.size + 1 + 1,0,none⟩) 1 1] 33)) (Obj.cells #[.slice (some ⟨w.heap.size + 1 + 1 + 1,0,none⟩) 1 1,.slice none 0 0,.string ⟨#[]⟩,.string ⟨#[]⟩,.string ⟨#[]⟩] 27)
 have hmm:=blk_alloc (blk_alloc (World.alloc_heap_new ((w.alloc (Obj.cells #[.string ⟨#[65]⟩,.string ⟨#[109]⟩,.string ⟨#[40,41,86]⟩] 25)).alloc (Obj.cells #[.int .i64 9,.int .i64 0,.int .i64 0,.int .i64 0,.int .i64 0,.string ⟨#[65]⟩,.string ⟨#[]⟩,.string ⟨#[]⟩,.slice none 0 0,.int .i64 25,.int .i64 1,.int .i64 0,.int .i64 0,.int .i64 0,.string ⟨#[65]⟩,.string ⟨#[]⟩,.string ⟨#[]⟩,.slice none 0 0,.int .i64 23,.int .i64 0,.int .i64 0,.int .i64 0,.int .i64 0,.string ⟨#[]⟩,.string ⟨#[]⟩,.string ⟨#[]⟩,.slice none 0 0] 74)) (Obj.cells #[.string ⟨#[109]⟩,.string ⟨#[40,41,86]⟩,.bool true,.bool false,.int .i64 2,.slice (some ⟨w.heap.size + 1,0,none⟩) 3 3] 37)) (Obj.cells #[.string ⟨#[65]⟩,.string ⟨#[]⟩,.bool false,.bool false,.slice none 0 0,.slice none 0 0,.slice (some ⟨w.heap.size + 1 + 1,0,none⟩) 1 1] 33)) (Obj.cells #[.slice (some ⟨w.heap.size + 1 + 1 + 1,0,none⟩) 1 1,.slice none 0 0,.string ⟨#[]⟩,.string ⟨#[]⟩,.string ⟨#[]⟩] 27)
 have hcc:=blk_alloc (World.alloc_heap_new (((w.alloc (Obj.cells #[.string ⟨#[65]⟩,.string ⟨#[109]⟩,.string ⟨#[40,41,86]⟩] 25)).alloc (Obj.cells #[.int .i64 9,.int .i64 0,.int .i64 0,.int .i64 0,.int .i64 0,.string ⟨#[65]⟩,.string ⟨#[]⟩,.string ⟨#[]⟩,.slice none 0 0,.int .i64 25,.int .i64 1,.int .i64 0,.int .i64 0,.int .i64 0,.string ⟨#[65]⟩,.string ⟨#[]⟩,.string ⟨#[]⟩,.slice none 0 0,.int .i64 23,.int .i64 0,.int .i64 0,.int .i64 0,.int .i64 0,.string ⟨#[]⟩,.string ⟨#[]⟩,.string ⟨#[]⟩,.slice none 0 0] 74)).alloc (Obj.cells #[.string ⟨#[109]⟩,.string ⟨#[40,41,86]⟩,.bool true,.bool false,.int .i64 2,.slice (some ⟨w.heap.size + 1,0,none⟩) 3 3] 37)) (Obj.cells #[.string ⟨#[65]⟩,.string ⟨#[]⟩,.bool false,.bool false,.slice none 0 0,.slice none 0 0,.slice (some ⟨w.heap.size + 1 + 1,0,none⟩) 1 1] 33)) (Obj.cells #[.slice (some ⟨w.heap.size + 1 + 1 + 1,0,none⟩) 1 1,.slice none 0 0,.string ⟨#[]⟩,.string ⟨#[]⟩,.string ⟨#[]⟩] 27)
 simp only [World.size_alloc] at hk hmm hcc
 have HOF:=aq (live_of hk hmm hcc)
 have HB0:=aq hb0
 have HM0:=aq hm
 clear hb0 hm hk hmm hcc
 go_enter Try.func12,Try.ntmps12
 go_wp2_with fail
 refine HOF.out.mono ?_
 rintro e w1 ⟨v1,rfl,hR,hb⟩
 obtain ⟨A1,c1,hv,hc1,hC1⟩:=Kd.R_reads hR
 obtain rfl : v1 = .slice A1 3 c1:=hv
 have HB1:=aq (below_step HB0.out hb)
 have HM1:=aq (blk_below HM0.out hb)
 obtain ⟨q0,q1,q2⟩:=cells3 HM1.out
 have HC1:=aq hC1
 have HCC:=aq hc1
 clear hR hb hC1 hc1
 go_wp2_with fail
 have HMa:=aq (blk_alloc (blk_alloc HM1.out (Obj.cells #[.string ⟨#[65]⟩,.string ⟨#[109]⟩,.string ⟨#[40,41,86]⟩,.int .i64 0,.string ⟨#[65]⟩] 46)) (Obj.cells #[.string ⟨#[65]⟩,.string ⟨#[102]⟩] 44))
 have HSa:=aq (blk_alloc (World.alloc_heap_new w1 (Obj.cells #[.string ⟨#[65]⟩,.string ⟨#[109]⟩,.string ⟨#[40,41,86]⟩,.int .i64 0,.string ⟨#[65]⟩] 46)) (Obj.cells #[.string ⟨#[65]⟩,.string ⟨#[102]⟩] 44))
 have hfa:=World.alloc_heap_new (w1.alloc (Obj.cells #[.string ⟨#[65]⟩,.string ⟨#[109]⟩,.string ⟨#[40,41,86]⟩,.int .i64 0,.string ⟨#[65]⟩] 46)) (Obj.cells #[.string ⟨#[65]⟩,.string ⟨#[102]⟩] 44)
 rw [World.size_alloc] at hfa
 have HFa:=aq hfa
 have HBa:=aq (below_alloc (below_alloc (Below.refl w1.heap.size w1) (Obj.cells #[.string ⟨#[65]⟩,.string ⟨#[109]⟩,.string ⟨#[40,41,86]⟩,.int .i64 0,.string ⟨#[65]⟩] 46)) (Obj.cells #[.string ⟨#[65]⟩,.string ⟨#[102]⟩] 44))
 clear hfa q0 q1 q2
 generalize (w1.alloc (Obj.cells #[.string ⟨#[65]⟩,.string ⟨#[109]⟩,.string ⟨#[40,41,86]⟩,.int .i64 0,.string ⟨#[65]⟩] 46)).alloc (Obj.cells #[.string ⟨#[65]⟩,.string ⟨#[102]⟩] 44) = w5 at HMa HSa HFa HBa ⊢
 have HCa:=aq (Kd.C_below HC1.out HBa.out)
 have hA : A1.isSome:=by
  obtain ⟨ad,_,_,hA,_⟩:=at_T60 HCa.out 0 (by decide) (by decide)
  rw [hA];rfl
 obtain ⟨ad,rfl⟩:=Option.isSome_iff_exists.1 hA
 clear hA
 have HL7 : Aside0 (L7 w5 w.heap.size w1.heap.size (w1.heap.size + 1) ad):=⟨⟨HMa.out,HSa.out,HFa.out,HCa.out⟩⟩
 have HB5:=aq (below_step HB1.out HBa.out)
 clear HMa HSa HFa HCa HBa HC1 HM1 HM0 HOF HCC HB0 HB1
 have hf0:=fld_0
 have hf3:=fld_3
 have hf4:=fld_4
 simp only [List.append]
 go_region_held3? (fun w' => w'.cell? ⟨w.heap.size, 0, none⟩ = some (.string ⟨#[65]⟩) ∧ w'.cell? ⟨w.heap.size, 1, none⟩ = some (.string ⟨#[109]⟩) ∧ w'.cell? ⟨w.heap.size, 2, none⟩ = some (.string ⟨#[40, 41, 86]⟩) ∧ w'.cell? ⟨w1.heap.size, 0, none⟩ = some (.string ⟨#[65]⟩) ∧ w'.cell? ⟨w1.heap.size, 1, none⟩ = some (.string ⟨#[109]⟩) ∧ w'.cell? ⟨w1.heap.size, 2, none⟩ = some (.string ⟨#[40, 41, 86]⟩) ∧ w'.cell? ⟨w1.heap.size, 3, none⟩ = some (.int .i64 0) ∧ w'.cell? ⟨w1.heap.size, 4, none⟩ = some (.string ⟨#[65]⟩) ∧ w'.cell? ⟨(w1.heap.size + 1), 0, none⟩ = some (.string ⟨#[65]⟩) ∧ w'.cell? ⟨(w1.heap.size + 1), 1, none⟩ = some (.string ⟨#[102]⟩) ∧ w'.cell? ad = some (.int .i64 7) ∧ w'.cell? ⟨ad.block, ad.off + 38, none⟩ = some (.int .i64 1) ∧ w'.cell? ⟨ad.block, ad.off + 38 + 26, none⟩ = some (.string ⟨#[65]⟩) ∧ w'.cell? ⟨ad.block, ad.off + 38 + 27, none⟩ = some (.string ⟨#[109]⟩) ∧ w'.cell? ⟨ad.block, ad.off + 38 + 28, none⟩ = some (.string ⟨#[40, 41, 86]⟩) ∧ w'.cell? ⟨ad.block, ad.off + 38 + 29, none⟩ = some (.int .i64 0) ∧ w'.cell? ⟨ad.block, ad.off + 38 + 30, none⟩ = some (.string ⟨#[65]⟩) ∧ w'.cell? ⟨ad.block, ad.off + 76 + 33, none⟩ = some (.string ⟨#[65]⟩) ∧ w'.cell? ⟨ad.block, ad.off + 76 + 2, none⟩ = some (.int .i64 1) ∧ w'.cell? ⟨ad.block, ad.off + 76 + 3, none⟩ = some (.string ⟨#[65]⟩) ∧ w'.cell? ⟨ad.block, ad.off + 76 + 4, none⟩ = some (.string ⟨#[109]⟩) ∧ w'.cell? ⟨ad.block, ad.off + 76 + 5, none⟩ = some (.string ⟨#[40, 41, 86]⟩) ∧ w'.cell? ⟨ad.block, ad.off + 76 + 6, none⟩ = some (.int .i64 1) ∧ w'.cell? ⟨ad.block, ad.off + 76 + 7, none⟩ = some (.string ⟨#[]⟩) ∧ w'.cell? ⟨ad.block, ad.off + 76 + 8, none⟩ = some (.string ⟨#[]⟩) ∧ w'.cell? ⟨ad.block, ad.off + 76 + 9, none⟩ = some (.string ⟨#[]⟩) ∧ w'.cell? ⟨ad.block, ad.off + 76 + 10, none⟩ = some (.string ⟨#[]⟩) ∧ w'.cell? ⟨ad.block, ad.off + 76 + 11, none⟩ = some (.string ⟨#[]⟩) ∧ w'.cell? ⟨ad.block, ad.off + 76 + 12, none⟩ = some (.int .i64 0) ∧ w'.cell? ⟨ad.block, ad.off + 76 + 13, none⟩ = some (.string ⟨#[]⟩)) (first | with_reducible exact (HL7.out.below (below_drew1 (Below.refl _ _))).S | with_reducible exact HL6.out.S | with_reducible exact HL8.out.S | with_reducible exact HL9.out.S | with_reducible exact HL10.out.S | with_reducible exact HL11.out.S | with_reducible exact (HL11.out.below (below_alloc (Below.refl _ _) _)).S | with_reducible exact HL12.out.S | fail "keep") ((first
  | (go_at_call 13;(with_reducible refine (Q43.gen_Reg.calls ⟨#[65]⟩ ⟨#[109]⟩ ⟨#[40,41,86]⟩ 1 1 ⟨#[65]⟩ ⟨#[109]⟩ ⟨#[40,41,86]⟩ 1 ⟨#[]⟩ ⟨#[]⟩ ⟨#[]⟩ ⟨#[]⟩ ⟨#[]⟩ 0 ⟨#[]⟩ _ rfl).mono ?_);rintro e w6 ⟨rfl,hb⟩;have hb_:=below_step (below_drew1 (Below.refl w5.heap.size w5)) hb;have HL6:=aq (HL7.out.below hb_);have HB6:=aq (below_step HB5.out hb_);clear hb hb_)
  | (go_at_call 15;(with_reducible refine (Q43.gen_Ret.calls ⟨#[65]⟩ ⟨#[109]⟩ ⟨#[40,41,86]⟩ 2 ⟨#[65]⟩ ⟨#[109]⟩ ⟨#[40,41,86]⟩ 0 ⟨#[]⟩ ⟨#[]⟩ ⟨#[]⟩ ⟨#[]⟩ ⟨#[]⟩ 0 ⟨#[]⟩ _ rfl).mono ?_);rintro e w7 ⟨rfl,hb⟩;have HL8:=aq (HL6.out.below hb);have HB8:=aq (below_step HB6.out hb);clear hb)
  | (go_at_call 17;(with_reducible refine (Q43.gen_Static.calls ⟨#[65]⟩ ⟨#[102]⟩ 3 ⟨#[]⟩ ⟨#[]⟩ ⟨#[]⟩ 0 ⟨#[65]⟩ ⟨#[102]⟩ ⟨#[]⟩ ⟨#[]⟩ ⟨#[]⟩ 0 ⟨#[]⟩ _ rfl).mono ?_);rintro e w8 ⟨rfl,hb⟩;have HL9:=aq (HL8.out.below hb);have HB9:=aq (below_step HB8.out hb);clear hb)
  | (go_at_call 19;(with_reducible refine (Q43.gen_Field.calls ⟨#[65]⟩ ⟨#[109]⟩ ⟨#[40,41,86]⟩ 0 ⟨#[65]⟩ ⟨#[65]⟩ ⟨#[102]⟩ 4 ⟨#[]⟩ ⟨#[]⟩ ⟨#[]⟩ 0 ⟨#[65]⟩ ⟨#[102]⟩ ⟨#[65]⟩ ⟨#[109]⟩ ⟨#[40,41,86]⟩ 0 ⟨#[65]⟩ _ rfl).mono ?_);rintro e w9 ⟨rfl,hb⟩;have HL10:=aq (HL9.out.below hb);have HB10:=aq (below_step HB9.out hb);clear hb)
  | (go_at_call 21;(with_reducible refine (Q43.gen_Element.calls ⟨#[65]⟩ ⟨#[109]⟩ ⟨#[40,41,86]⟩ 0 ⟨#[65]⟩ 5 ⟨#[]⟩ ⟨#[]⟩ ⟨#[]⟩ 0 ⟨#[]⟩ ⟨#[]⟩ ⟨#[65]⟩ ⟨#[109]⟩ ⟨#[40,41,86]⟩ 0 ⟨#[65]⟩ _ rfl).mono ?_);rintro e w10 ⟨rfl,hb⟩;have HL11:=aq (HL10.out.below hb);have HB11:=aq (below_step HB10.out hb);clear hb)
  | (go_at_call 24;(with_reducible refine (live_pass w10).mono ?_);rintro e w11 ⟨v2,rfl,hR,hb⟩;have hb_:=below_step (below_alloc (Below.refl w10.heap.size w10) (Obj.cells #[.int .i64 0,.int .i64 1] 3)) hb;have HL12:=aq (HL11.out.below hb_);have HB12:=aq (below_step HB11.out hb_);(obtain ⟨A2,c2,hv,_,_⟩:=Kd.R_reads hR);(obtain rfl : v2 = .slice A2 2 c2:=hv);clear hb hb_ hR)))
 go_wp2_with fail
 exact bodyPost_ret (results_tmp rfl _ _ _) rfl ⟨rfl,HB12.out⟩
def setAll (cs : Array Value) : Nat → List Value → Array Value
 | _,[] => cs
 | o,v :: vs => setAll (cs.setIfInBounds o v) (o + 1) vs
theorem setCells_blk0 {g : Nat} {t : TypeId} : ∀ (vs : List Value) (o : Nat) (w : World) (cs : Array Value), w.heap[g]? = some (.cells cs t (0, 0)) → (w.setCells g o vs).heap[g]? = some (.cells (setAll cs o vs) t (0, 0))
 | [],_,_,_,h => h
 | v :: vs,o,w,cs,h => setCells_blk0 vs (o + 1) (w.setCell ⟨g,o,none⟩ v) (cs.setIfInBounds o v) (blk_set h o v)
theorem setCells_blk {w : World} {g : Nat} {t : TypeId} {cs cs' : Array Value} (h : w.heap[g]? = some (.cells cs t (0, 0))) (o : Nat) (vs : List Value) (e : setAll cs o vs = cs') : (w.setCells g o vs).heap[g]? = some (.cells cs' t (0, 0)) := e ▸ setCells_blk0 vs o w cs h
theorem setCells_below {n : Nat} {w0 : World} {g : Nat} (hg : n ≤ g) : ∀ (vs : List Value) (o : Nat) (w : World), Below n w0 w → Below n w0 (w.setCells g o vs)
 | [],_,_,h => h
 | v :: vs,o,w,h => setCells_below hg vs (o + 1) (w.setCell ⟨g,o,none⟩ v) (h.setCell (p:=⟨g,o,none⟩) hg v)
theorem setCells_far {g k : Nat} {ob : Option Obj} (hk : k ≠ g) : ∀ (vs : List Value) (o : Nat) (w : World), w.heap[k]? = ob → (w.setCells g o vs).heap[k]? = ob
 | [],_,_,h => h
 | v :: vs,o,w,h => setCells_far hk vs (o + 1) (w.setCell ⟨g,o,none⟩ v) ((Below.heap_setCell _ _ _ _ (show k ≠ (⟨g,o,none⟩ : Addr).block from hk)).trans h)
theorem setCells_size (g : Nat) : ∀ (vs : List Value) (o : Nat) (w : World), (w.setCells g o vs).heap.size = w.heap.size
 | [],_,_ => rfl
 | v :: vs,o,w => (setCells_size g vs (o + 1) (w.setCell ⟨g,o,none⟩ v)).trans (World.size_setCell _ _ _)
theorem there_blk {w : World} {g : Nat} {t : TypeId} {cs : Array Value} (h : w.heap[g]? = some (.cells cs t (0, 0))) (o n : Nat) (hn : o + n ≤ cs.size) : w.there g o n := fun j hj => by
 refine ⟨?_,blk_frozen h _⟩
 rw [blk_cell h (o + j)]
 rw [Array.getElem?_eq_getElem (by omega)]
 rfl
theorem range_blk {w : World} {g : Nat} {t : TypeId} {cs : Array Value} (h : w.heap[g]? = some (.cells cs t (0, 0))) (o n : Nat) (vs : List Value) (e : (cs.extract o (o + n)).toList = vs) : w.rangeAt g o vs := e ▸ World.rangeAt_of_block h o n
theorem all_one {cs : List Value} (h : cs.all (·.oneCell') = true) : cs.toArray.all (·.oneCell') = true := all_oneCell_toArray (List.all_eq_true.1 h)
theorem wpList_store_blk {P : Program} {ops : Array Oper} {rest : List Oper} {op : Oper} {a : Act} {w : World} {Q : Exit → Act → World → Prop} {g : Nat} {t : TypeId} {cs cs' : Array Value}
  (hb : w.heap[g]? = some (.cells cs t (0,0))) (ty : TypeId) (x y : Operand) (o n : Nat) (vs : List Value) (hgd : op.guard = none) (ho : op.op = .store ty x y) (hx : a.eval x = .pointer (some ⟨g,o,none⟩)) (hy : a.eval y = .agg vs.toArray)
  (hl : vs.length = n) (hn : o + n ≤ cs.size) (hi : (P.info? ty).map (·.size) = some n) (h1 : vs.all (·.oneCell') = true) (e : setAll cs o vs = cs')
  (h : ∀ W',W'.heap[g]? = some (.cells cs' t (0,0)) → (∀ n w0,n ≤ g → Below n w0 w → Below n w0 W') → (∀ k ob,k ≠ g → w.heap[k]? = ob → W'.heap[k]? = ob) → W'.heap.size = w.heap.size → wpList P ops Q rest (a.put op.dst undef) W') : wpList P ops Q (op :: rest) a w:=by
 subst hl
 have hs : (w.setCells g o vs).heap.size = w.heap.size:=setCells_size g vs o w
 exact wpList_store_mid hgd ty x y ho g o vs.toArray hx hy (there_blk hb o _ (by simpa using hn)) (by simpa using hi) (all_one h1) (h _ (setCells_blk hb o vs e) (fun n w0 hn hB => setCells_below hn vs o w hB) (fun k ob hk hb => setCells_far hk vs o w hb) hs)
theorem wpList_load_blk {P : Program} {ops : Array Oper} {rest : List Oper} {op : Oper} {a : Act} {w : World} {Q : Exit → Act → World → Prop} {g : Nat} {t : TypeId} {cs : Array Value}
  (hb : w.heap[g]? = some (.cells cs t (0,0))) (ty : TypeId) (x : Operand) (o n : Nat) (vs : List Value) (d : TypeDesc) (hgd : op.guard = none) (ho : op.op = .load ty x) (hx : a.eval x = .pointer (some ⟨g,o,none⟩))
  (hl : vs.length = n) (e : (cs.extract o (o + n)).toList = vs) (hu : P.underlying ty = some d) (hd : d.isRow = true) (hi : (P.info? ty).map (·.size) = some n)
  (h : wpList P ops Q rest (a.put op.dst (.agg vs.toArray)) w) : wpList P ops Q (op :: rest) a w:=by
 subst hl
 exact wpList_load_mid hgd ty x ho g o hx vs d (range_blk hb o _ vs e) hu hd hi h
end Go.Proofs.Ytfplcohjnlbfjaa.Hand
end

section
namespace Go.Proofs.Ytfplcohjnlbfjaa.Q44
open Go.RowKit Go.Proofs.YtfplcohjnlbfjaaW
open PrintWords PrintLast PrintMore Go.Proofs.Ytfplcohjnlbfjaa.Hand
attribute [local go_sem] max2_int min2_int max_two min_two max_three min_three max_four min_four
def errW : Option Int → Value
  | none => .nilIface
  | some c => .iface 0 (.int .i64 c)
theorem errW_none : errW none = .nilIface := rfl
theorem errW_some (c : Int) : errW (some c) = .iface 0 (.int .i64 c) := rfl
end Go.Proofs.Ytfplcohjnlbfjaa.Q44
end

section
namespace Go.Proofs.Ytfplcohjnlbfjaa.Q44
open Go.RowKit Go.Proofs.YtfplcohjnlbfjaaW
open PrintWords PrintLast PrintMore
attribute [local go_sem] max2_int min2_int max_two min_two max_three min_three max_four min_four
end Go.Proofs.Ytfplcohjnlbfjaa.Q44
end

section
namespace Go.Proofs.Ytfplcohjnlbfjaa.Hand
open Go.RowKit Go.Proofs.YtfplcohjnlbfjaaW
open PrintWords PrintLast PrintMore
theorem step_store_blk {P : Program} {ops : Array Oper} {op : Oper} {a : Act} {w : World} {K : Act → World → Prop} {Q : Exit → Act → World → Prop} {g : Nat} {t : TypeId} {cs cs' : Array Value}
  (hb : w.heap[g]? = some (.cells cs t (0,0))) (ty : TypeId) (x y : Operand) (o n : Nat) (vs : List Value) (hw : Region.wanted op (yielded ops a.tmps) = true) (hN : op.dst = none) (ho : op.op = .store ty x y) (hx : a.eval x = .pointer (some ⟨g,o,none⟩)) (hy : a.eval y = .agg vs.toArray)
  (hl : vs.length = n) (hn : o + n ≤ cs.size) (hi : (P.info? ty).map (·.size) = some n) (h1 : vs.all (·.oneCell') = true) (e : setAll cs o vs = cs')
  (h : ∀ W',W'.heap[g]? = some (.cells cs' t (0,0)) → (∀ n w0,n ≤ g → Below n w0 w → Below n w0 W') → (∀ k ob,k ≠ g → w.heap[k]? = ob → W'.heap[k]? = ob) → W'.heap.size = w.heap.size → K a W') : if Region.wanted op (yielded ops a.tmps) = true then Oper.wp P op a w K Q else K (a.put none undef) w:=by
 rw [if_pos hw]
 subst hl
 have hs : (w.setCells g o vs).heap.size = w.heap.size:=setCells_size g vs o w
 refine wp_store_mid ty x y ho g o vs.toArray hx hy (there_blk hb o _ (by simpa using hn)) (by simpa using hi) (all_one h1) ?_
 show K (a.put op.dst undef) _
 rw [hN]
 exact h _ (setCells_blk hb o vs e) (fun n w0 hn hB => setCells_below hn vs o w hB) (fun k ob hk hb => setCells_far hk vs o w hb) hs
end Go.Proofs.Ytfplcohjnlbfjaa.Hand
end

section
namespace Go.Proofs.Ytfplcohjnlbfjaa.HandV
open Go.Proofs.Ytfplcohjnlbfjaa.Hand Go.RowKit Go.Proofs.YtfplcohjnlbfjaaW.PrintWords Go.Proofs.YtfplcohjnlbfjaaW.PrintLast Go.Proofs.YtfplcohjnlbfjaaW.PrintMore
theorem R_any {e : Nat} {W : World} {base : Nat} {ok ok' : Nat → Prop} {v : Value} {l : List CV} (h : Kd.R kCV e W base ok v l) (ho : ∀ k, v.ownBlock = some k → ok' k) : Kd.R kCV e W base ok' v l :=
  ⟨ho,h.2.imp_ (fun x cs hm => by rw [kCV_open (kCV.K_of_M hm)];exact kCV_mkM _ _ _ _)⟩
theorem R_storefar {W W' : World} {b n : Nat} {ok : Nat → Prop} {v : Value} {xs : List Int} {cs : Array Value} (h : Kd.R (Kd.int .i64) 3 W b ok v xs) (hb : W.heap[n]? = some (.cells cs 60 (0, 0))) (hF : ∀ k ob, k ≠ n → W.heap[k]? = ob → W'.heap[k]? = ob) : Kd.R (Kd.int .i64) 3 W' b ok v xs :=
  Kd.R_mono (Kd.R_step (Kd.R_bound h) (fun k hk _ => hF k _ (fun e => by
    obtain ⟨_,_,_,q,hq,cells,hc⟩:=hk
    rw [e,hb] at hc
    injection hc with hc
    injection hc with _ hc _
    rw [← hc] at hq
    exact absurd hq (by decide)) rfl)) (fun _ hk => hk.1)
theorem R_not {W : World} {b n c : Nat} {ok : Nat → Prop} {ad : Addr} {m : Nat} {xs : List Int} {cs : Array Value} (h : Kd.R (Kd.int .i64) 3 W b ok (.slice (some ad) m c) xs) (hb : W.heap[n]? = some (.cells cs 60 (0, 0))) : ad.block ≠ n := fun e => by
  have h1:=Kd.R_ne h (g:=n) hb (by decide)
  exact h1 (by rw [← e];rfl)
theorem IvS.store {w W W' : World} {base g n : Nat} {a0 a1 a2 a3 a4 : Value} {m : S25} {pc : Int} {b0 b1 b2 b3 b4 b5 b6 b7 b8 : Value} {v0 v : Value} {l : List CV} {cs cs' : Array Value} {ty : TypeId} (h : IvS w W base g a0 a1 a2 a3 a4 m pc b0 b1 b2 b3 b4 b5 b6 b7 b8 v0 v l n cs ty) (hn0 : w.heap.size ≤ n) (hbz : base ≤ w.heap.size) (hq : W'.heap[n]? = some (.cells cs' ty (0, 0))) (hB : ∀ k w0, k ≤ n → Below k w0 W → Below k w0 W') (hF : ∀ k ob, k ≠ n → W.heap[k]? = ob → W'.heap[k]? = ob) (hsz : W'.heap.size = W.heap.size) : IvS w W' base g a0 a1 a2 a3 a4 m pc b0 b1 b2 b3 b4 b5 b6 b7 b8 v0 v l n cs' ty :=
  ⟨⟨hF g _ h.hn.symm h.hm.b,h.hm.hb,Kd.R_mono (Kd.R_step (R_any h.hm.r (ok':=fun k => k ≠ n) (fun k hk e => h.hv (by rw [hk,e]))) (fun k hk _ => hF k _ hk rfl)) (fun _ _ => trivial)⟩,
   hB base w (Nat.le_trans hbz hn0) h.hB,⟨⟨by rw [hsz];exact h.hK.1.1,fun i hi hg hv => (hF i _ (by omega) rfl).trans (h.hK.1.2 i hi hg hv)⟩,h.hK.2⟩,hq,h.hn,h.hv,by rw [hsz];exact h.hs⟩
theorem IvS.set1 {w W : World} {base g n : Nat} {a0 a1 a2 a3 a4 : Value} {m : S25} {pc : Int} {b0 b1 b2 b3 b4 b5 b6 b7 b8 : Value} {v0 v : Value} {l : List CV} {cs cs' : Array Value} {ty : TypeId} (h : IvS w W base g a0 a1 a2 a3 a4 m pc b0 b1 b2 b3 b4 b5 b6 b7 b8 v0 v l n cs ty) (hn0 : w.heap.size ≤ n) (hbz : base ≤ w.heap.size) (j : Nat) (u : Value) (he : cs.setIfInBounds j u = cs') : IvS w (W.setCell ⟨n, j, none⟩ u) base g a0 a1 a2 a3 a4 m pc b0 b1 b2 b3 b4 b5 b6 b7 b8 v0 v l n cs' ty :=
  h.store hn0 hbz (blk_put h.hz j u he) (fun k w0 hk hb => hb.setCell (p:=⟨n,j,none⟩) hk u) (fun k ob hk hb => (Below.heap_setCell _ _ _ _ (show k ≠ (⟨n,j,none⟩ : Addr).block from hk)).trans hb) (World.size_setCell _ _ _)
theorem asked_ans {m : S25} {pc : Int} {x : S74} {c : CV} {ins : List CV} {s : ByteArray} (h1 : c.f1 = pc) (h2 : c.f4.f0 = m) (h3 : c.f2 = ansP m x.f1 s) (hu : x.f1 ∈ usesR x) (h4 : c.f3.f0 = 1 → c.f3.f1 = m ∧ c.f3.f2 ∈ usesR x) (h : Asked m pc x ins false) : Asked m pc x (c :: ins) (ansB s) := by
  unfold ansP at h3
  refine ⟨fun d hd => ?_,fun hs => ⟨c,List.mem_cons_self,?_⟩⟩
  · rcases List.mem_cons.1 hd with rfl|hd
    · refine ⟨h1,h2,fun h0 => ?_,h4⟩
      rw [h3] at h0 ⊢
      split at h0
      · rename_i hb
        rw [if_pos hb]
        exact ⟨rfl,hu⟩
      · exact absurd (show (0 : Int) = 1 from h0) (by decide)
    · exact h.1 d hd
  · rw [h3,if_pos hs]
theorem mk_call19 (base g : Nat) (A0 : Option Addr) (c0 : Nat) (l0 : List S33) (A1 : Option Addr) (c1 : Nat) (l1 : List ByteArray) (a2 a3 a4 : ByteArray) (m : S25) (pc : Int) (ia ib ic id : Int) (s5 s6 s7 : ByteArray) (A8 : Option Addr) (c8 : Nat) (ags : List Int) (v : Value) (l : List CV) (w : World) (hm : MkOwn w base g (.slice A0 l0.length c0) (.slice A1 l1.length c1) (.string a2) (.string a3) (.string a4) m pc (.int .i64 19) (.int .i64 ia) (.int .i64 ib) (.int .i64 ic) (.int .i64 id) (.string s5) (.string s6) (.string s7) (.slice A8 ags.length c8) v l) (hl : l.length + 2 ≤ 1048576) (hbz : base ≤ w.heap.size) (hr0 : Kd.C k33 w A0 l0.length l0) (hc0 : l0.length ≤ c0) (hr1 : Kd.C Kd.string w A1 l1.length l1) (hc1 : l1.length ≤ c1) (hM : MaxL w) (hs7 : s7.size ≤ 1048576) (hC8 : Kd.C (Kd.int .i64) w A8 ags.length ags) (hc8 : ags.length ≤ c8) (hag : ags.length ≤ 1048576) (t0 t1 t2 : ByteArray) (ok : Bool) (hst : find_Static.f l0 l1 a2 a3 a4 s5 s6 s7 = some (t0, t1, t2, ok)) :
    Calls Try.prog 73 #[.pointer (some ⟨g,0,none⟩)] w fun e w' => ∃ v' ins,e = .returned (.tuple #[]) ∧ MkOwn w' base g (.slice A0 l0.length c0) (.slice A1 l1.length c1) (.string a2) (.string a3) (.string a4) m pc (.int .i64 19) (.int .i64 ia) (.int .i64 ib) (.int .i64 ic) (.int .i64 id) (.string s5) (.string s6) (.string s7) (.slice A8 ags.length c8) v' (l ++ ins) ∧ ins.length ≤ 3 ∧ Asked m pc (⟨19,ia,ib,ic,id,s5,s6,s7,ags⟩ : S74) ins (ok && ansB s7) ∧ Below base w w' ∧ Kp w w' g v v':=by
  have HXB : Aside0 (Below w.heap.size w w.drew):=⟨below_drew1 (Below.refl _ _)⟩
  obtain ⟨pa,hpa⟩ : ∃ pa,ansP m ia s7 = pa:=⟨_,rfl⟩
  have HPA:=aq hpa
  have HM0 : Aside0 (MkOwn w.drew base g (.slice A0 l0.length c0) (.slice A1 l1.length c1) (.string a2) (.string a3) (.string a4) m pc (.int .i64 19) (.int .i64 ia) (.int .i64 ib) (.int .i64 ic) (.int .i64 id) (.string s5) (.string s6) (.string s7) (.slice A8 ags.length c8) v l):=⟨hm.below HXB.out hbz⟩
  have HAN : Aside0 (∀ W,Below w.drew.heap.size w.drew W → Calls Try.prog 91 #[.pointer (some ⟨g,0,none⟩)] W fun e w' => e = .returned (.agg (List.toArray (qL pa []))) ∧ Below W.heap.size W w'):=⟨fun W hW => by
    have h:=mk_answer g (.slice A0 l0.length c0) (.slice A1 l1.length c1) (.string a2) (.string a3) (.string a4) m pc (.int .i64 19) ia (.int .i64 ib) (.int .i64 ic) (.int .i64 id) (.string s5) (.string s6) s7 (.slice A8 ags.length c8) v W (blk_below HM0.out.b hW) (max_below hM (HXB.out.trans (hW.mono HXB.out.size))) hs7
    rw [hpa] at h
    exact h⟩
  have HCN : Aside0 (∀ W,Below w.drew.heap.size w.drew W → Calls Try.prog 92 #[.slice A8 ags.length c8] W fun e w' => ∃ v0_ : Value,e = .returned v0_ ∧ Kd.R (Kd.int .i64) 3 w' W.heap.size (fun _ => True) v0_ ags ∧ Below W.heap.size W w'):=⟨fun W hW => slices_Clone_int_int.calls A8 c8 ags ags W (Kd.C_below hC8 (HXB.out.trans (hW.mono HXB.out.size))) hc8 (if_pos hag)⟩
  have HBc : Aside0 (Below w.drew.heap.size w.drew w.drew):=⟨Below.refl _ _⟩
  have HBz:=aq hbz
  have HL:=aq hl
  have HAG:=aq hag
  have HST0 : Aside0 (∀ W,Below w.heap.size w W → Calls Try.prog 93 #[.agg (pG A0 l0 c0 A1 l1 c1 a2 a3 a4),.agg #[.string s5,.string s6,.string s7]] W fun e w' => e = .returned (.tuple #[.agg #[.string t0,.string t1,.string t2],.bool ok]) ∧ Below W.heap.size W w'):=⟨fun W hW => find_Static.calls A0 c0 l0 A1 c1 l1 a2 a3 a4 s5 s6 s7 t0 t1 t2 ok W (Kd.C_below hr0 hW) hc0 (Kd.C_below hr1 hW) hc1 hst⟩
  clear hm hl hbz hr0 hr1 hM hs7 hC8 hag hpa hst
  have z0 : w.drew.cell? ⟨g,14,none⟩ = some (.string s5):=blk_cell HM0.out.b 14
  have z1 : w.drew.cell? ⟨g,15,none⟩ = some (.string s6):=blk_cell HM0.out.b 15
  have z2 : w.drew.cell? ⟨g,16,none⟩ = some (.string s7):=blk_cell HM0.out.b 16
  have z3 : w.drew.cell? ⟨g,17,none⟩ = some (.slice A8 ags.length c8):=blk_cell HM0.out.b 17
  go_enter Try.func73,Try.ntmps73
  go_wp2_with fail
  refine start_ (n:=27) (S:=fun w' => w'.cell? ⟨g,14,none⟩ = some (.string s5) ∧ w'.cell? ⟨g,15,none⟩ = some (.string s6) ∧ w'.cell? ⟨g,16,none⟩ = some (.string s7) ∧ w'.cell? ⟨g,17,none⟩ = some (.slice A8 ags.length c8)) (ds:=[26]) (Array.replicate 27 false) (by kernel_rfl) rfl rfl ⟨z0,z1,z2,z3⟩ (fun hHeld => ?_)
  generalize w.drew = X at HM0 HAN HCN HBc HXB z0 z1 z2 z3 hHeld ⊢
  refine sP (i:=0) (N:=some 5) ?_
  refine sP (i:=2) (N:=some 7) ?_
  refine sP (i:=3) (N:=some 8) ?_
  refine sP (i:=4) (N:=some 9) ?_
  refine sP (i:=5) (N:=some 10) ?_
  refine sP (i:=7) (N:=some 12) ?_
  refine sP (i:=8) (N:=some 13) ?_
  refine sP (i:=9) (N:=some 14) ?_
  refine sP (i:=10) (N:=some 15) ?_
  refine sP (i:=12) (N:=some 17) ?_
  refine sP (i:=13) (N:=some 18) ?_
  refine sP (i:=14) (N:=some 19) ?_
  refine sP (i:=15) (N:=some 20) ?_
  refine sP (i:=18) (N:=some 23) ?_
  refine sP (i:=19) (N:=some 24) ?_
  refine sP (i:=20) (N:=some 25) ?_
  refine sP (i:=21) (N:=some 26) ?_
  refine sT (i:=6) (N:=some 11) hHeld ?_
  refine sT (i:=11) (N:=some 16) hHeld ?_
  refine sT (i:=16) (N:=some 21) hHeld ?_
  refine sP (i:=17) (N:=some 22) ?_
  refine sT (i:=22) (N:=some 27) hHeld ?_
  refine join_ (σ:=Nat × Option Addr × Nat) 1 #[true,true,true,true,true,true,true,true,true,true,true,true,true,true,true,true,true,true,true,true,true,true,true,true,true,true,false] (fun s => [(6,.agg (List.toArray (qL pa []))),(28,.slice s.2.1 ags.length s.2.2),(29,.agg (List.toArray ((kK 10 0 (qL pa (qZ (sZ (fZ (kS ⟨#[]⟩ (mS s5 s6 s7 [.slice s.2.1 ags.length s.2.2])))))))))),(2,.pointer (some ⟨s.1,0,none⟩))]) (fun s w' => w'.heap[s.1]? = some (Obj.cells (List.toArray ((kK 0 0 (qZ (qZ (sZ (fZ (kS ⟨#[]⟩ (mZ [.slice none 0 0]))))))))) 60 (0,0)) ∧ Below X.heap.size X w' ∧ X.heap.size ≤ s.1 ∧ Kd.R (Kd.int .i64) 3 w' 0 (fun _ => True) (.slice s.2.1 ags.length s.2.2) ags) ?_ ?_
  rotate_left
  · intro hCont
    refine sW (i:=1) (j:=25) (Ni:=some 6) (Nj:=some 2) (fun K hK => ?_) fun K hK => ?_
    · skip
      refine sG Try.func91 #[.pointer (some ⟨g,0,none⟩)] ?_
      refine (HAN.out X HBc.out).mono ?_
      rintro e w1 ⟨rfl,hb⟩
      refine ⟨_,rfl,?_⟩
      replace HBc:=aq (HBc.out.trans (hb.mono HBc.out.size))
      clear hb
      refine hK.out _ _ ⟨(sC HBc.out z0),(sC HBc.out z1),(sC HBc.out z2),(sC HBc.out z3)⟩ (fun hHeld => ?_)
      clear hK K
      refine sN ?_
      refine sW (i:=23) (j:=25) (Ni:=some 28) (Nj:=some 2) (fun K hK => ?_) fun K hK => ?_
      · skip
        refine sG Try.func92 #[.slice A8 ags.length c8] ?_
        refine (HCN.out w1 HBc.out).mono ?_
        rintro e w23 ⟨vC,rfl,hR,hb⟩
        obtain ⟨AC,cC,hvC⟩:=Kd.R_slice hR
        subst hvC
        refine ⟨_,rfl,?_⟩
        replace HBc:=aq (HBc.out.trans (hb.mono HBc.out.size))
        have HCL:=aq (Kd.R_lower hR (Nat.zero_le _))
        clear hb hR
        refine hK.out _ _ ⟨(sC HBc.out z0),(sC HBc.out z1),(sC HBc.out z2),(sC HBc.out z3)⟩ (fun hHeld => ?_)
        clear hK K
        refine sN ?_
        refine sP (i:=24) (N:=some 29) ?_
        refine sO (i:=25) (N:=some 2) fun K hK => ?_
        refine value_ (w1:=?_) (v:=?_) (by rfl) rfl ?_ ?_
        rotate_left 2
        · go_simp
          constructor
          · rfl
          · rfl
        have HG : Aside0 (X.heap.size ≤ w23.heap.size):=⟨HBc.out.size⟩
        have hb : Below w23.heap.size w23 (w23.alloc (Obj.cells (List.toArray ((kK 0 0 (qZ (qZ (sZ (fZ (kS ⟨#[]⟩ (mZ [.slice none 0 0]))))))))) 60)):=below_alloc (Below.refl _ _) _
        replace HCL:=aq (Kd.R_below HCL.out hb)
        replace HBc:=aq (HBc.out.trans (hb.mono HBc.out.size))
        have HF:=aq (World.alloc_heap_new w23 (Obj.cells (List.toArray ((kK 0 0 (qZ (qZ (sZ (fZ (kS ⟨#[]⟩ (mZ [.slice none 0 0]))))))))) 60))
        clear hb
        refine hK.out _ _ ⟨(sC HBc.out z0),(sC HBc.out z1),(sC HBc.out z2),(sC HBc.out z3)⟩ (fun hHeld => ?_)
        clear hK K
        refine sN ?_
        exact norm_ (by simp only [putAll,Act.put,List.setIfInBounds_toArray,List.set_cons_zero,List.set_cons_succ]) (hCont (w23.heap.size,AC,cC) _ ⟨HF.out,HBc.out,HG.out,HCL.out⟩)
      · skip
        refine value_ (w1:=?_) (v:=?_) (by rfl) rfl ?_ ?_
        rotate_left 2
        · go_simp
          constructor
          · rfl
          · rfl
        have HG : Aside0 (X.heap.size ≤ w1.heap.size):=⟨HBc.out.size⟩
        have hb : Below w1.heap.size w1 (w1.alloc (Obj.cells (List.toArray ((kK 0 0 (qZ (qZ (sZ (fZ (kS ⟨#[]⟩ (mZ [.slice none 0 0]))))))))) 60)):=below_alloc (Below.refl _ _) _
        replace HBc:=aq (HBc.out.trans (hb.mono HBc.out.size))
        have HF:=aq (World.alloc_heap_new w1 (Obj.cells (List.toArray ((kK 0 0 (qZ (qZ (sZ (fZ (kS ⟨#[]⟩ (mZ [.slice none 0 0]))))))))) 60))
        clear hb
        refine hK.out _ _ ⟨(sC HBc.out z0),(sC HBc.out z1),(sC HBc.out z2),(sC HBc.out z3)⟩ (fun hHeld => ?_)
        clear hK K
        refine sN ?_
        refine sO (i:=23) (N:=some 28) fun K hK => ?_
        refine sG Try.func92 #[.slice A8 ags.length c8] ?_
        refine (HCN.out (w1.alloc (Obj.cells (List.toArray ((kK 0 0 (qZ (qZ (sZ (fZ (kS ⟨#[]⟩ (mZ [.slice none 0 0]))))))))) 60)) HBc.out).mono ?_
        rintro e w23 ⟨vC,rfl,hR,hb⟩
        obtain ⟨AC,cC,hvC⟩:=Kd.R_slice hR
        subst hvC
        refine ⟨_,rfl,?_⟩
        replace HF:=aq (blk_below HF.out hb)
        replace HBc:=aq (HBc.out.trans (hb.mono HBc.out.size))
        have HCL:=aq (Kd.R_lower hR (Nat.zero_le _))
        clear hb hR
        refine hK.out _ _ ⟨(sC HBc.out z0),(sC HBc.out z1),(sC HBc.out z2),(sC HBc.out z3)⟩ (fun hHeld => ?_)
        clear hK K
        refine sN ?_
        refine sP (i:=24) (N:=some 29) ?_
        exact norm_ (by simp only [putAll,Act.put,List.setIfInBounds_toArray,List.set_cons_zero,List.set_cons_succ]) (hCont (w1.heap.size,AC,cC) _ ⟨HF.out,HBc.out,HG.out,HCL.out⟩)
    · skip
      refine value_ (w1:=?_) (v:=?_) (by rfl) rfl ?_ ?_
      rotate_left 2
      · go_simp
        constructor
        · rfl
        · rfl
      have HG : Aside0 (X.heap.size ≤ X.heap.size):=⟨HBc.out.size⟩
      have hb : Below X.heap.size X (X.alloc (Obj.cells (List.toArray ((kK 0 0 (qZ (qZ (sZ (fZ (kS ⟨#[]⟩ (mZ [.slice none 0 0]))))))))) 60)):=below_alloc (Below.refl _ _) _
      replace HBc:=aq (HBc.out.trans (hb.mono HBc.out.size))
      have HF:=aq (World.alloc_heap_new X (Obj.cells (List.toArray ((kK 0 0 (qZ (qZ (sZ (fZ (kS ⟨#[]⟩ (mZ [.slice none 0 0]))))))))) 60))
      clear hb
      refine hK.out _ _ ⟨(sC HBc.out z0),(sC HBc.out z1),(sC HBc.out z2),(sC HBc.out z3)⟩ (fun hHeld => ?_)
      clear hK K
      refine sN ?_
      refine sO (i:=1) (N:=some 6) fun K hK => ?_
      refine sG Try.func91 #[.pointer (some ⟨g,0,none⟩)] ?_
      refine (HAN.out (X.alloc (Obj.cells (List.toArray ((kK 0 0 (qZ (qZ (sZ (fZ (kS ⟨#[]⟩ (mZ [.slice none 0 0]))))))))) 60)) HBc.out).mono ?_
      rintro e w1 ⟨rfl,hb⟩
      refine ⟨_,rfl,?_⟩
      replace HF:=aq (blk_below HF.out hb)
      replace HBc:=aq (HBc.out.trans (hb.mono HBc.out.size))
      clear hb
      refine hK.out _ _ ⟨(sC HBc.out z0),(sC HBc.out z1),(sC HBc.out z2),(sC HBc.out z3)⟩ (fun hHeld => ?_)
      clear hK K
      refine sN ?_
      refine sO (i:=23) (N:=some 28) fun K hK => ?_
      refine sG Try.func92 #[.slice A8 ags.length c8] ?_
      refine (HCN.out w1 HBc.out).mono ?_
      rintro e w23 ⟨vC,rfl,hR,hb⟩
      obtain ⟨AC,cC,hvC⟩:=Kd.R_slice hR
      subst hvC
      refine ⟨_,rfl,?_⟩
      replace HF:=aq (blk_below HF.out hb)
      replace HBc:=aq (HBc.out.trans (hb.mono HBc.out.size))
      have HCL:=aq (Kd.R_lower hR (Nat.zero_le _))
      clear hb hR
      refine hK.out _ _ ⟨(sC HBc.out z0),(sC HBc.out z1),(sC HBc.out z2),(sC HBc.out z3)⟩ (fun hHeld => ?_)
      clear hK K
      refine sN ?_
      refine sP (i:=24) (N:=some 29) ?_
      exact norm_ (by simp only [putAll,Act.put,List.setIfInBounds_toArray,List.set_cons_zero,List.set_cons_succ]) (hCont (X.heap.size,AC,cC) _ ⟨HF.out,HBc.out,HG.out,HCL.out⟩)
  rintro ⟨n,AC,cC⟩ w7 ⟨hf,hb,hg,hcl⟩
  replace HBc:=aq hb
  have hHeld : w7.cell? ⟨g,14,none⟩ = some (.string s5) ∧ w7.cell? ⟨g,15,none⟩ = some (.string s6) ∧ w7.cell? ⟨g,16,none⟩ = some (.string s7) ∧ w7.cell? ⟨g,17,none⟩ = some (.slice A8 ags.length c8):=⟨(sC HBc.out z0),(sC HBc.out z1),(sC HBc.out z2),(sC HBc.out z3)⟩
  have HF:=aq hf
  have HG:=aq hg
  have HCL:=aq hcl
  clear hf hb hg hcl
  refine norm_ (a':=?_) ?_ ?_
  rotate_left
  · simp only [putAll,Act.put,List.setIfInBounds_toArray,List.set_cons_zero,List.set_cons_succ]
    rfl
  refine sX (i:=26) (N:=none) fun K hK => ?_
  refine step_store_blk HF.out 60 _ _ 0 38 ((kK 10 0 (qL pa (qZ (sZ (fZ (kS ⟨#[]⟩ (mS s5 s6 s7 [.slice AC ags.length cC])))))))) (by rfl) rfl rfl rfl rfl rfl (show 38 ≤ 38 from Nat.le_refl 38) (by kernel_rfl) rfl (cs':=(List.toArray ((kK 10 0 (qL pa (qZ (sZ (fZ (kS ⟨#[]⟩ (mS s5 s6 s7 [.slice AC ags.length cC])))))))))) (by kernel_rfl) ?_
  intro w8 hq hB hF hsz
  have HZ8:=aq hq
  have HB8:=aq (hB _ _ HG.out HBc.out)
  have HC8:=aq (R_storefar HCL.out HF.out hF)
  clear hq hB hF hsz
  refine hK.out _ _ ?_
  clear hK K
  refine done_ (by kernel_rfl) ?_
  have HS8 : Aside0 (IvS w w8 base g (.slice A0 l0.length c0) (.slice A1 l1.length c1) (.string a2) (.string a3) (.string a4) m pc (.int .i64 19) (.int .i64 ia) (.int .i64 ib) (.int .i64 ic) (.int .i64 id) (.string s5) (.string s6) (.string s7) (.slice A8 ags.length c8) v v l n (List.toArray ((kK 10 0 (qL pa (qZ (sZ (fZ (kS ⟨#[]⟩ (mS s5 s6 s7 [.slice AC ags.length cC]))))))))) 60):=⟨IvS.inner HM0.out HXB.out HBz.out HB8.out HZ8.out HG.out⟩
  have HN0 : Aside0 (w.heap.size ≤ n):=⟨Nat.le_trans HXB.out.size HG.out⟩
  have HBW8 : Aside0 (Below w.heap.size w w8):=⟨HXB.out.trans (HB8.out.mono HXB.out.size)⟩
  clear hHeld z0 z1 z2 z3 HM0 HBc HXB HF HCL HB8 HZ8 HG HAN HCN
  have k9 : w8.cell? ⟨g,9,none⟩ = some (.int .i64 19):=blk_cell HS8.out.hm.b 9
  have HST:=HST0
  replace HBW8 : Aside0 (Below w.heap.size w w8.drew):=⟨HBW8.out.trans ((below_drew1 (Below.refl _ _)).mono HBW8.out.size)⟩
  have HS4 : Aside0 (IvS w w8.drew base g (.slice A0 l0.length c0) (.slice A1 l1.length c1) (.string a2) (.string a3) (.string a4) m pc (.int .i64 19) (.int .i64 ia) (.int .i64 ib) (.int .i64 ic) (.int .i64 id) (.string s5) (.string s6) (.string s7) (.slice A8 ags.length c8) v v l n (List.toArray ((kK 10 0 (qL pa (qZ (sZ (fZ (kS ⟨#[]⟩ (mS s5 s6 s7 [.slice AC ags.length cC]))))))))) 60):=⟨HS8.out.below (below_drew1 (Below.refl _ _))⟩
  have HM4 : Aside0 (MkOwn w8.drew base g (.slice A0 l0.length c0) (.slice A1 l1.length c1) (.string a2) (.string a3) (.string a4) m pc (.int .i64 19) (.int .i64 ia) (.int .i64 ib) (.int .i64 ic) (.int .i64 id) (.string s5) (.string s6) (.string s7) (.slice A8 ags.length c8) v l):=⟨HS4.out.hm⟩
  have HBc : Aside0 (Below w8.drew.heap.size w8.drew w8.drew):=⟨Below.refl _ _⟩
  have z0 : w8.drew.cell? ⟨g,0,none⟩ = some (.slice A0 l0.length c0):=blk_cell HM4.out.b 0
  have z1 : w8.drew.cell? ⟨g,1,none⟩ = some (.slice A1 l1.length c1):=blk_cell HM4.out.b 1
  have z2 : w8.drew.cell? ⟨g,2,none⟩ = some (.string a2):=blk_cell HM4.out.b 2
  have z3 : w8.drew.cell? ⟨g,3,none⟩ = some (.string a3):=blk_cell HM4.out.b 3
  have z4 : w8.drew.cell? ⟨g,4,none⟩ = some (.string a4):=blk_cell HM4.out.b 4
  have z5 : w8.drew.cell? ⟨n,34,none⟩ = some (.string s5):=blk_cell HS4.out.hz 34
  have z6 : w8.drew.cell? ⟨n,35,none⟩ = some (.string s6):=blk_cell HS4.out.hz 35
  have z7 : w8.drew.cell? ⟨n,36,none⟩ = some (.string s7):=blk_cell HS4.out.hz 36
  go_wp2_with fail
  clear k9 HS8
  refine start_ (n:=13) (S:=fun w' => w'.cell? ⟨g,0,none⟩ = some (.slice A0 l0.length c0) ∧ w'.cell? ⟨g,1,none⟩ = some (.slice A1 l1.length c1) ∧ w'.cell? ⟨g,2,none⟩ = some (.string a2) ∧ w'.cell? ⟨g,3,none⟩ = some (.string a3) ∧ w'.cell? ⟨g,4,none⟩ = some (.string a4) ∧ w'.cell? ⟨n,34,none⟩ = some (.string s5) ∧ w'.cell? ⟨n,35,none⟩ = some (.string s6) ∧ w'.cell? ⟨n,36,none⟩ = some (.string s7)) (ds:=[11]) (Array.replicate 13 false) (by kernel_rfl) rfl rfl ⟨z0,z1,z2,z3,z4,z5,z6,z7⟩ (fun hHeld => ?_)
  generalize w8.drew = X at HM4 HBW8 HS4 HBc z0 z1 z2 z3 z4 z5 z6 z7 hHeld ⊢
  refine sP (i:=0) (N:=some 40) ?_
  refine sP (i:=1) (N:=some 41) ?_
  refine sP (i:=2) (N:=some 42) ?_
  refine sP (i:=4) (N:=some 44) ?_
  refine sT (i:=3) (N:=some 43) hHeld ?_
  refine sT (i:=5) (N:=some 45) hHeld ?_
  refine join_ (σ:=Nat) 2 #[true,true,true,true,true,true,true,true,true,true,true,false,false] (fun s => [(46,.tuple #[.agg #[.string t0,.string t1,.string t2],.bool ok]),(39,.tuple #[.agg #[.string t0,.string t1,.string t2],.bool ok]),(47,.agg #[.string t0,.string t1,.string t2]),(48,.bool ok),(3,.pointer (some ⟨s,0,none⟩))]) (fun s w' => w'.heap[s]? = some (Obj.cells zR 25 (0,0)) ∧ Below X.heap.size X w' ∧ X.heap.size ≤ s) ?_ ?_
  rotate_left
  · intro hCont
    refine sW (i:=6) (j:=10) (Ni:=some 46) (Nj:=some 3) (fun K hK => ?_) fun K hK => ?_
    · skip
      refine sG Try.func93 #[.agg (pG A0 l0 c0 A1 l1 c1 a2 a3 a4),.agg #[.string s5,.string s6,.string s7]] ?_
      refine (HST.out X (HBW8.out.trans (HBc.out.mono HBW8.out.size))).mono ?_
      rintro e w14 ⟨rfl,hb⟩
      refine ⟨_,rfl,?_⟩
      replace HBc:=aq (HBc.out.trans (hb.mono HBc.out.size))
      clear hb
      refine hK.out _ _ ⟨(sC HBc.out z0),(sC HBc.out z1),(sC HBc.out z2),(sC HBc.out z3),(sC HBc.out z4),(sC HBc.out z5),(sC HBc.out z6),(sC HBc.out z7)⟩ (fun hHeld => ?_)
      clear hK K
      refine sN ?_
      refine sP (i:=7) (N:=some 39) ?_
      refine sP (i:=8) (N:=some 47) ?_
      refine sP (i:=9) (N:=some 48) ?_
      refine sO (i:=10) (N:=some 3) fun K hK => ?_
      refine value_ (w1:=?_) (v:=?_) (by rfl) rfl ?_ ?_
      rotate_left 2
      · go_simp
        constructor
        · rfl
        · rfl
      have HG4 : Aside0 (X.heap.size ≤ w14.heap.size):=⟨HBc.out.size⟩
      have hb : Below w14.heap.size w14 (w14.alloc (Obj.cells zR 25)):=below_alloc (Below.refl _ _) _
      replace HBc:=aq (HBc.out.trans (hb.mono HBc.out.size))
      have HT:=aq (World.alloc_heap_new w14 (Obj.cells zR 25))
      clear hb
      refine hK.out _ _ ⟨(sC HBc.out z0),(sC HBc.out z1),(sC HBc.out z2),(sC HBc.out z3),(sC HBc.out z4),(sC HBc.out z5),(sC HBc.out z6),(sC HBc.out z7)⟩ (fun hHeld => ?_)
      clear hK K
      refine sN ?_
      exact norm_ (by simp only [putAll,Act.put,List.setIfInBounds_toArray,List.set_cons_zero,List.set_cons_succ]) (hCont w14.heap.size _ ⟨HT.out,HBc.out,HG4.out⟩)
    · skip
      refine value_ (w1:=?_) (v:=?_) (by rfl) rfl ?_ ?_
      rotate_left 2
      · go_simp
        constructor
        · rfl
        · rfl
      have HG4 : Aside0 (X.heap.size ≤ X.heap.size):=⟨HBc.out.size⟩
      have hb : Below X.heap.size X (X.alloc (Obj.cells zR 25)):=below_alloc (Below.refl _ _) _
      replace HBc:=aq (HBc.out.trans (hb.mono HBc.out.size))
      have HT:=aq (World.alloc_heap_new X (Obj.cells zR 25))
      clear hb
      refine hK.out _ _ ⟨(sC HBc.out z0),(sC HBc.out z1),(sC HBc.out z2),(sC HBc.out z3),(sC HBc.out z4),(sC HBc.out z5),(sC HBc.out z6),(sC HBc.out z7)⟩ (fun hHeld => ?_)
      clear hK K
      refine sN ?_
      refine sO (i:=6) (N:=some 46) fun K hK => ?_
      refine sG Try.func93 #[.agg (pG A0 l0 c0 A1 l1 c1 a2 a3 a4),.agg #[.string s5,.string s6,.string s7]] ?_
      refine (HST.out (X.alloc (Obj.cells zR 25)) (HBW8.out.trans (HBc.out.mono HBW8.out.size))).mono ?_
      rintro e w14 ⟨rfl,hb⟩
      refine ⟨_,rfl,?_⟩
      replace HT:=aq (blk_below HT.out hb)
      replace HBc:=aq (HBc.out.trans (hb.mono HBc.out.size))
      clear hb
      refine hK.out _ _ ⟨(sC HBc.out z0),(sC HBc.out z1),(sC HBc.out z2),(sC HBc.out z3),(sC HBc.out z4),(sC HBc.out z5),(sC HBc.out z6),(sC HBc.out z7)⟩ (fun hHeld => ?_)
      clear hK K
      refine sN ?_
      refine sP (i:=7) (N:=some 39) ?_
      refine sP (i:=8) (N:=some 47) ?_
      refine sP (i:=9) (N:=some 48) ?_
      exact norm_ (by simp only [putAll,Act.put,List.setIfInBounds_toArray,List.set_cons_zero,List.set_cons_succ]) (hCont X.heap.size _ ⟨HT.out,HBc.out,HG4.out⟩)
  rintro t w17 ⟨hf,hb,hg⟩
  replace HBc:=aq hb
  have hHeld : w17.cell? ⟨g,0,none⟩ = some (.slice A0 l0.length c0) ∧ w17.cell? ⟨g,1,none⟩ = some (.slice A1 l1.length c1) ∧ w17.cell? ⟨g,2,none⟩ = some (.string a2) ∧ w17.cell? ⟨g,3,none⟩ = some (.string a3) ∧ w17.cell? ⟨g,4,none⟩ = some (.string a4) ∧ w17.cell? ⟨n,34,none⟩ = some (.string s5) ∧ w17.cell? ⟨n,35,none⟩ = some (.string s6) ∧ w17.cell? ⟨n,36,none⟩ = some (.string s7):=⟨(sC HBc.out z0),(sC HBc.out z1),(sC HBc.out z2),(sC HBc.out z3),(sC HBc.out z4),(sC HBc.out z5),(sC HBc.out z6),(sC HBc.out z7)⟩
  have HT:=aq hf
  have HG4:=aq hg
  clear hf hb hg
  obtain ⟨e0,e1,e2⟩:=cells3 HT.out
  have ef:=blk_frozen HT.out
  refine norm_ (a':=?_) ?_ ?_
  rotate_left
  · simp only [putAll,Act.put,List.setIfInBounds_toArray,List.set_cons_zero,List.set_cons_succ]
    rfl
  refine sX (i:=11) (N:=none) fun K hK => ?_
  refine skip_ (w1:=?_) (by rfl) rfl ?_ ?_
  rotate_left
  · go_simp
    rfl
  have hz:=set3_own HT.out (.string t0) (.string t1) (.string t2)
  have hb:=set3_belowA HBc.out HG4.out (.string t0) (.string t1) (.string t2)
  generalize (((w17.setCell ⟨t,0,none⟩ (.string t0)).setCell ⟨t,1,none⟩ (.string t1)).setCell ⟨t,2,none⟩ (.string t2)) = w18 at hz hb ⊢
  have HT8:=aq hz
  have HB18:=aq hb
  clear hz hb e0 e1 e2 ef
  refine hK.out _ _ ?_
  clear hK K
  refine sP (i:=12) (N:=some 4) ?_
  refine done_ (by kernel_rfl) ?_
  have HS18:=aq (HS4.out.below HB18.out)
  have HT18 : Aside0 (IvS w w18 base g (.slice A0 l0.length c0) (.slice A1 l1.length c1) (.string a2) (.string a3) (.string a4) m pc (.int .i64 19) (.int .i64 ia) (.int .i64 ib) (.int .i64 ic) (.int .i64 id) (.string s5) (.string s6) (.string s7) (.slice A8 ags.length c8) v v l t #[.string t0,.string t1,.string t2] 25):=⟨IvS.inner HM4.out HBW8.out HBz.out HB18.out HT8.out HG4.out⟩
  have HTN : Aside0 (t ≠ n):=⟨by have:=blk_lt HS4.out.hz;have:=HG4.out;omega⟩
  clear hHeld z0 z1 z2 z3 z4 z5 z6 z7 HM4 HBc HBW8 HT HB18 HT8 HG4 HST HST0 HS4
  cases ok
  · go_wp2_with fail
    exact bodyPost_ret (v:=.tuple #[]) (by simp [results,Try.results73,go_sem]) rfl (by first|exact ⟨_,[],rfl,(by rw [List.append_nil];exact HS18.out.hm),Nat.le_of_ble_eq_true rfl,asked_nil,HS18.out.hB,HS18.out.hK⟩|exact ⟨rfl,_,[],(by rw [List.append_nil];exact HS18.out.hm),Nat.le_of_ble_eq_true rfl,asked_nil,HS18.out.hB,HS18.out.hK⟩)
  have f0 : w18.cell? ⟨t,0,none⟩ = some (.string t0):=blk_cell HT18.out.hz 0
  go_wp2_with fail
  refine (maker_begins base g (.slice A0 l0.length c0) (.slice A1 l1.length c1) (.string a2) (.string a3) (.string a4) m pc (.int .i64 19) (.int .i64 ia) (.int .i64 ib) (.int .i64 ic) (.int .i64 id) (.string s5) (.string s6) (.string s7) (.slice A8 ags.length c8) v l t0 w18 HS18.out.hm (by have:=HL.out;(try simp only [List.length_append,List.length_cons,List.length_nil]);omega) HS18.out.hs).mono ?_
  rintro e w19 ⟨v19,rfl,hm,hb,hk⟩
  have HS19:=aq (HS18.out.put hm hb hk)
  have HT19:=aq (HT18.out.put hm hb hk)
  clear hm hb hk f0
  have HS : Aside0 (IvS w w19.drew base g (.slice A0 l0.length c0) (.slice A1 l1.length c1) (.string a2) (.string a3) (.string a4) m pc (.int .i64 19) (.int .i64 ia) (.int .i64 ib) (.int .i64 ic) (.int .i64 id) (.string s5) (.string s6) (.string s7) (.slice A8 ags.length c8) v v19 (l ++ [(⟨7,pc,z50,z50,⟨m,0,⟨#[]⟩⟩,z44,t0,z25,noSl⟩ : CV)]) n (List.toArray ((kK 10 0 (qL pa (qZ (sZ (fZ (kS ⟨#[]⟩ (mS s5 s6 s7 [.slice AC ags.length cC]))))))))) 60):=⟨HS19.out.below (below_drew1 (Below.refl _ _))⟩
  have z0 : w19.drew.cell? ⟨t,0,none⟩ = some (.string t0):=blk_cell HT19.out.hz 0
  have z1 : w19.drew.cell? ⟨t,1,none⟩ = some (.string t1):=blk_cell HT19.out.hz 1
  have z2 : w19.drew.cell? ⟨t,2,none⟩ = some (.string t2):=blk_cell HT19.out.hz 2
  have n0 : w19.drew.cell? ⟨n,0,none⟩ = some (.int .i64 10):=blk_cell HS.out.hz 0
  have nf:=blk_frozen HS.out.hz 0
  go_wp2_with fail
  refine start_ (n:=5) (S:=fun w' => w'.cell? ⟨t,0,none⟩ = some (.string t0) ∧ w'.cell? ⟨t,1,none⟩ = some (.string t1) ∧ w'.cell? ⟨t,2,none⟩ = some (.string t2)) (ds:=[4]) (Array.replicate 5 false) (by kernel_rfl) rfl rfl ⟨z0,z1,z2⟩ (fun hHeld => ?_)
  generalize w19.drew = X at HS n0 nf z0 z1 z2 hHeld ⊢
  refine sP (i:=1) (N:=some 56) ?_
  refine sT (i:=0) (N:=some 55) hHeld ?_
  refine sO (i:=2) (N:=none) fun K hK => ?_
  refine skip_ (w1:=?_) (by rfl) rfl ?_ ?_
  rotate_left
  · go_simp
    rfl
  have HS2:=aq (HS.out.set1 HN0.out HBz.out 0 (.int .i64 9) (cs':=(List.toArray ((kK 9 0 (qL pa (qZ (sZ (fZ (kS ⟨#[]⟩ (mS s5 s6 s7 [.slice AC ags.length cC])))))))))) (by kernel_rfl))
  have q0:=cell_far (p:=⟨n,0,none⟩) (a:=⟨t,0,none⟩) HTN.out (.int .i64 9) |>.trans z0
  have q1:=cell_far (p:=⟨n,0,none⟩) (a:=⟨t,1,none⟩) HTN.out (.int .i64 9) |>.trans z1
  have q2:=cell_far (p:=⟨n,0,none⟩) (a:=⟨t,2,none⟩) HTN.out (.int .i64 9) |>.trans z2
  generalize X.setCell ⟨n,0,none⟩ (.int .i64 9) = X2 at HS2 q0 q1 q2 ⊢
  clear n0 nf
  refine hK.out _ _ ⟨q0,q1,q2⟩ (fun hHeld => ?_)
  clear hK K
  refine sP (i:=3) (N:=some 57) ?_
  refine sX (i:=4) (N:=none) fun K hK => ?_
  refine step_store_blk HS2.out.hz 25 _ _ 34 3 [.string t0,.string t1,.string t2] (by rfl) rfl rfl rfl rfl rfl (show 37 ≤ 38 from Nat.le_succ 37) (by kernel_rfl) rfl (cs':=(List.toArray ((kK 9 0 (qL pa (qZ (sZ (fZ (kS ⟨#[]⟩ (mS t0 t1 t2 [.slice AC ags.length cC])))))))))) (by kernel_rfl) ?_
  intro w20 hq hB hF hsz
  have HS20:=aq (HS2.out.store HN0.out HBz.out hq hB hF hsz)
  clear hq hB hF hsz
  refine hK.out _ _ ?_
  clear hK K
  refine done_ (by kernel_rfl) ?_
  go_wp2_with (first
    | (refine wpList_load_blk HS20.out.hz 60 _ 0 38 ((kK 9 0 (qL pa (qZ (sZ (fZ (kS ⟨#[]⟩ (mS t0 t1 t2 [.slice AC ags.length cC])))))))) _ rfl rfl rfl rfl (by kernel_rfl) Try.underlying60 rfl (by kernel_rfl) ?_)
    | fail)
  refine (put_plain base g (.slice A0 l0.length c0) (.slice A1 l1.length c1) (.string a2) (.string a3) (.string a4) m pc (.int .i64 19) (.int .i64 ia) (.int .i64 ib) (.int .i64 ic) (.int .i64 id) (.string s5) (.string s6) (.string s7) (.slice A8 ags.length c8) v19 (l ++ [(⟨7,pc,z50,z50,⟨m,0,⟨#[]⟩⟩,z44,t0,z25,noSl⟩ : CV)]) (⟨9,0,pa,z50,⟨z25,0,⟨#[]⟩⟩,z44,⟨#[]⟩,⟨t0,t1,t2⟩,(AC,ags.length,cC)⟩ : CV) w20 HS20.out.hm (show (9 : Int) ≠ 1 by decide) (by have:=HL.out;(try simp only [List.length_append,List.length_cons,List.length_nil]);omega) HS20.out.hs).mono ?_
  rintro e w21 ⟨v21,rfl,hm,hb,hk⟩
  have HS21:=aq (HS20.out.put hm hb hk)
  clear hm hb hk
  try simp only [List.append_assoc,List.cons_append,List.nil_append] at HS21
  go_wp2_with fail
  exact bodyPost_end (v:=.tuple #[]) (by simp [results,Try.results73,go_sem]) rfl (by first|exact ⟨_,[(⟨7,pc,z50,z50,⟨m,0,⟨#[]⟩⟩,z44,t0,z25,noSl⟩ : CV),(⟨9,pc,pa,z50,⟨m,0,⟨#[]⟩⟩,z44,⟨#[]⟩,⟨t0,t1,t2⟩,(AC,ags.length,cC)⟩ : CV)],rfl,HS21.out.hm,Nat.le_of_ble_eq_true rfl,(asked_cons rfl rfl (fun h => absurd (show (0 : Int) = 1 from h) (by decide)) (fun h => absurd (show (0 : Int) = 1 from h) (by decide)) (asked_ans (s:=s7) rfl rfl HPA.out.symm (by simp [usesR]) (fun h => absurd (show (0 : Int) = 1 from h) (by decide)) asked_nil)),HS21.out.hB,HS21.out.hK⟩|exact ⟨rfl,_,[(⟨7,pc,z50,z50,⟨m,0,⟨#[]⟩⟩,z44,t0,z25,noSl⟩ : CV),(⟨9,pc,pa,z50,⟨m,0,⟨#[]⟩⟩,z44,⟨#[]⟩,⟨t0,t1,t2⟩,(AC,ags.length,cC)⟩ : CV)],HS21.out.hm,Nat.le_of_ble_eq_true rfl,(asked_cons rfl rfl (fun h => absurd (show (0 : Int) = 1 from h) (by decide)) (fun h => absurd (show (0 : Int) = 1 from h) (by decide)) (asked_ans (s:=s7) rfl rfl HPA.out.symm (by simp [usesR]) (fun h => absurd (show (0 : Int) = 1 from h) (by decide)) asked_nil)),HS21.out.hB,HS21.out.hK⟩)
theorem mk_call20 (base g : Nat) (A0 : Option Addr) (c0 : Nat) (l0 : List S33) (A1 : Option Addr) (c1 : Nat) (l1 : List ByteArray) (a2 a3 a4 : ByteArray) (m : S25) (pc : Int) (ia ib ic id : Int) (s5 s6 s7 : ByteArray) (A8 : Option Addr) (c8 : Nat) (ags : List Int) (v : Value) (l : List CV) (w : World) (hm : MkOwn w base g (.slice A0 l0.length c0) (.slice A1 l1.length c1) (.string a2) (.string a3) (.string a4) m pc (.int .i64 20) (.int .i64 ia) (.int .i64 ib) (.int .i64 ic) (.int .i64 id) (.string s5) (.string s6) (.string s7) (.slice A8 ags.length c8) v l) (hl : l.length + 2 ≤ 1048576) (hbz : base ≤ w.heap.size) (hr0 : Kd.C k33 w A0 l0.length l0) (hc0 : l0.length ≤ c0) (hr1 : Kd.C Kd.string w A1 l1.length l1) (hc1 : l1.length ≤ c1) (hM : MaxL w) (hs7 : s7.size ≤ 1048576) (hC8 : Kd.C (Kd.int .i64) w A8 ags.length ags) (hc8 : ags.length ≤ c8) (hag : ags.length ≤ 1048576) :
    Calls Try.prog 73 #[.pointer (some ⟨g,0,none⟩)] w fun e w' => ∃ v' ins,e = .returned (.tuple #[]) ∧ MkOwn w' base g (.slice A0 l0.length c0) (.slice A1 l1.length c1) (.string a2) (.string a3) (.string a4) m pc (.int .i64 20) (.int .i64 ia) (.int .i64 ib) (.int .i64 ic) (.int .i64 id) (.string s5) (.string s6) (.string s7) (.slice A8 ags.length c8) v' (l ++ ins) ∧ ins.length ≤ 3 ∧ Asked m pc (⟨20,ia,ib,ic,id,s5,s6,s7,ags⟩ : S74) ins ((!ags.isEmpty) && ansB s7) ∧ Below base w w' ∧ Kp w w' g v v':=by
  have HXB : Aside0 (Below w.heap.size w w.drew):=⟨below_drew1 (Below.refl _ _)⟩
  obtain ⟨pa,hpa⟩ : ∃ pa,ansP m ia s7 = pa:=⟨_,rfl⟩
  have HPA:=aq hpa
  have HM0 : Aside0 (MkOwn w.drew base g (.slice A0 l0.length c0) (.slice A1 l1.length c1) (.string a2) (.string a3) (.string a4) m pc (.int .i64 20) (.int .i64 ia) (.int .i64 ib) (.int .i64 ic) (.int .i64 id) (.string s5) (.string s6) (.string s7) (.slice A8 ags.length c8) v l):=⟨hm.below HXB.out hbz⟩
  have HAN : Aside0 (∀ W,Below w.drew.heap.size w.drew W → Calls Try.prog 91 #[.pointer (some ⟨g,0,none⟩)] W fun e w' => e = .returned (.agg (List.toArray (qL pa []))) ∧ Below W.heap.size W w'):=⟨fun W hW => by
    have h:=mk_answer g (.slice A0 l0.length c0) (.slice A1 l1.length c1) (.string a2) (.string a3) (.string a4) m pc (.int .i64 20) ia (.int .i64 ib) (.int .i64 ic) (.int .i64 id) (.string s5) (.string s6) s7 (.slice A8 ags.length c8) v W (blk_below HM0.out.b hW) (max_below hM (HXB.out.trans (hW.mono HXB.out.size))) hs7
    rw [hpa] at h
    exact h⟩
  have HCN : Aside0 (∀ W,Below w.drew.heap.size w.drew W → Calls Try.prog 92 #[.slice A8 ags.length c8] W fun e w' => ∃ v0_ : Value,e = .returned v0_ ∧ Kd.R (Kd.int .i64) 3 w' W.heap.size (fun _ => True) v0_ ags ∧ Below W.heap.size W w'):=⟨fun W hW => slices_Clone_int_int.calls A8 c8 ags ags W (Kd.C_below hC8 (HXB.out.trans (hW.mono HXB.out.size))) hc8 (if_pos hag)⟩
  have HBc : Aside0 (Below w.drew.heap.size w.drew w.drew):=⟨Below.refl _ _⟩
  have HBz:=aq hbz
  have HL:=aq hl
  have HAG:=aq hag
  clear hm hl hbz hr0 hr1 hM hs7 hC8 hag hpa
  have z0 : w.drew.cell? ⟨g,14,none⟩ = some (.string s5):=blk_cell HM0.out.b 14
  have z1 : w.drew.cell? ⟨g,15,none⟩ = some (.string s6):=blk_cell HM0.out.b 15
  have z2 : w.drew.cell? ⟨g,16,none⟩ = some (.string s7):=blk_cell HM0.out.b 16
  have z3 : w.drew.cell? ⟨g,17,none⟩ = some (.slice A8 ags.length c8):=blk_cell HM0.out.b 17
  go_enter Try.func73,Try.ntmps73
  go_wp2_with fail
  refine start_ (n:=27) (S:=fun w' => w'.cell? ⟨g,14,none⟩ = some (.string s5) ∧ w'.cell? ⟨g,15,none⟩ = some (.string s6) ∧ w'.cell? ⟨g,16,none⟩ = some (.string s7) ∧ w'.cell? ⟨g,17,none⟩ = some (.slice A8 ags.length c8)) (ds:=[26]) (Array.replicate 27 false) (by kernel_rfl) rfl rfl ⟨z0,z1,z2,z3⟩ (fun hHeld => ?_)
  generalize w.drew = X at HM0 HAN HCN HBc HXB z0 z1 z2 z3 hHeld ⊢
  refine sP (i:=0) (N:=some 5) ?_
  refine sP (i:=2) (N:=some 7) ?_
  refine sP (i:=3) (N:=some 8) ?_
  refine sP (i:=4) (N:=some 9) ?_
  refine sP (i:=5) (N:=some 10) ?_
  refine sP (i:=7) (N:=some 12) ?_
  refine sP (i:=8) (N:=some 13) ?_
  refine sP (i:=9) (N:=some 14) ?_
  refine sP (i:=10) (N:=some 15) ?_
  refine sP (i:=12) (N:=some 17) ?_
  refine sP (i:=13) (N:=some 18) ?_
  refine sP (i:=14) (N:=some 19) ?_
  refine sP (i:=15) (N:=some 20) ?_
  refine sP (i:=18) (N:=some 23) ?_
  refine sP (i:=19) (N:=some 24) ?_
  refine sP (i:=20) (N:=some 25) ?_
  refine sP (i:=21) (N:=some 26) ?_
  refine sT (i:=6) (N:=some 11) hHeld ?_
  refine sT (i:=11) (N:=some 16) hHeld ?_
  refine sT (i:=16) (N:=some 21) hHeld ?_
  refine sP (i:=17) (N:=some 22) ?_
  refine sT (i:=22) (N:=some 27) hHeld ?_
  refine join_ (σ:=Nat × Option Addr × Nat) 1 #[true,true,true,true,true,true,true,true,true,true,true,true,true,true,true,true,true,true,true,true,true,true,true,true,true,true,false] (fun s => [(6,.agg (List.toArray (qL pa []))),(28,.slice s.2.1 ags.length s.2.2),(29,.agg (List.toArray ((kK 10 0 (qL pa (qZ (sZ (fZ (kS ⟨#[]⟩ (mS s5 s6 s7 [.slice s.2.1 ags.length s.2.2])))))))))),(2,.pointer (some ⟨s.1,0,none⟩))]) (fun s w' => w'.heap[s.1]? = some (Obj.cells (List.toArray ((kK 0 0 (qZ (qZ (sZ (fZ (kS ⟨#[]⟩ (mZ [.slice none 0 0]))))))))) 60 (0,0)) ∧ Below X.heap.size X w' ∧ X.heap.size ≤ s.1 ∧ Kd.R (Kd.int .i64) 3 w' 0 (fun _ => True) (.slice s.2.1 ags.length s.2.2) ags) ?_ ?_
  rotate_left
  · intro hCont
    refine sW (i:=1) (j:=25) (Ni:=some 6) (Nj:=some 2) (fun K hK => ?_) fun K hK => ?_
    · skip
      refine sG Try.func91 #[.pointer (some ⟨g,0,none⟩)] ?_
      refine (HAN.out X HBc.out).mono ?_
      rintro e w1 ⟨rfl,hb⟩
      refine ⟨_,rfl,?_⟩
      replace HBc:=aq (HBc.out.trans (hb.mono HBc.out.size))
      clear hb
      refine hK.out _ _ ⟨(sC HBc.out z0),(sC HBc.out z1),(sC HBc.out z2),(sC HBc.out z3)⟩ (fun hHeld => ?_)
      clear hK K
      refine sN ?_
      refine sW (i:=23) (j:=25) (Ni:=some 28) (Nj:=some 2) (fun K hK => ?_) fun K hK => ?_
      · skip
        refine sG Try.func92 #[.slice A8 ags.length c8] ?_
        refine (HCN.out w1 HBc.out).mono ?_
        rintro e w23 ⟨vC,rfl,hR,hb⟩
        obtain ⟨AC,cC,hvC⟩:=Kd.R_slice hR
        subst hvC
        refine ⟨_,rfl,?_⟩
        replace HBc:=aq (HBc.out.trans (hb.mono HBc.out.size))
        have HCL:=aq (Kd.R_lower hR (Nat.zero_le _))
        clear hb hR
        refine hK.out _ _ ⟨(sC HBc.out z0),(sC HBc.out z1),(sC HBc.out z2),(sC HBc.out z3)⟩ (fun hHeld => ?_)
        clear hK K
        refine sN ?_
        refine sP (i:=24) (N:=some 29) ?_
        refine sO (i:=25) (N:=some 2) fun K hK => ?_
        refine value_ (w1:=?_) (v:=?_) (by rfl) rfl ?_ ?_
        rotate_left 2
        · go_simp
          constructor
          · rfl
          · rfl
        have HG : Aside0 (X.heap.size ≤ w23.heap.size):=⟨HBc.out.size⟩
        have hb : Below w23.heap.size w23 (w23.alloc (Obj.cells (List.toArray ((kK 0 0 (qZ (qZ (sZ (fZ (kS ⟨#[]⟩ (mZ [.slice none 0 0]))))))))) 60)):=below_alloc (Below.refl _ _) _
        replace HCL:=aq (Kd.R_below HCL.out hb)
        replace HBc:=aq (HBc.out.trans (hb.mono HBc.out.size))
        have HF:=aq (World.alloc_heap_new w23 (Obj.cells (List.toArray ((kK 0 0 (qZ (qZ (sZ (fZ (kS ⟨#[]⟩ (mZ [.slice none 0 0]))))))))) 60))
        clear hb
        refine hK.out _ _ ⟨(sC HBc.out z0),(sC HBc.out z1),(sC HBc.out z2),(sC HBc.out z3)⟩ (fun hHeld => ?_)
        clear hK K
        refine sN ?_
        exact norm_ (by simp only [putAll,Act.put,List.setIfInBounds_toArray,List.set_cons_zero,List.set_cons_succ]) (hCont (w23.heap.size,AC,cC) _ ⟨HF.out,HBc.out,HG.out,HCL.out⟩)
      · skip
        refine value_ (w1:=?_) (v:=?_) (by rfl) rfl ?_ ?_
        rotate_left 2
        · go_simp
          constructor
          · rfl
          · rfl
        have HG : Aside0 (X.heap.size ≤ w1.heap.size):=⟨HBc.out.size⟩
        have hb : Below w1.heap.size w1 (w1.alloc (Obj.cells (List.toArray ((kK 0 0 (qZ (qZ (sZ (fZ (kS ⟨#[]⟩ (mZ [.slice none 0 0]))))))))) 60)):=below_alloc (Below.refl _ _) _
        replace HBc:=aq (HBc.out.trans (hb.mono HBc.out.size))
        have HF:=aq (World.alloc_heap_new w1 (Obj.cells (List.toArray ((kK 0 0 (qZ (qZ (sZ (fZ (kS ⟨#[]⟩ (mZ [.slice none 0 0]))))))))) 60))
        clear hb
        refine hK.out _ _ ⟨(sC HBc.out z0),(sC HBc.out z1),(sC HBc.out z2),(sC HBc.out z3)⟩ (fun hHeld => ?_)
        clear hK K
        refine sN ?_
        refine sO (i:=23) (N:=some 28) fun K hK => ?_
        refine sG Try.func92 #[.slice A8 ags.length c8] ?_
        refine (HCN.out (w1.alloc (Obj.cells (List.toArray ((kK 0 0 (qZ (qZ (sZ (fZ (kS ⟨#[]⟩ (mZ [.slice none 0 0]))))))))) 60)) HBc.out).mono ?_
        rintro e w23 ⟨vC,rfl,hR,hb⟩
        obtain ⟨AC,cC,hvC⟩:=Kd.R_slice hR
        subst hvC
        refine ⟨_,rfl,?_⟩
        replace HF:=aq (blk_below HF.out hb)
        replace HBc:=aq (HBc.out.trans (hb.mono HBc.out.size))
        have HCL:=aq (Kd.R_lower hR (Nat.zero_le _))
        clear hb hR
        refine hK.out _ _ ⟨(sC HBc.out z0),(sC HBc.out z1),(sC HBc.out z2),(sC HBc.out z3)⟩ (fun hHeld => ?_)
        clear hK K
        refine sN ?_
        refine sP (i:=24) (N:=some 29) ?_
        exact norm_ (by simp only [putAll,Act.put,List.setIfInBounds_toArray,List.set_cons_zero,List.set_cons_succ]) (hCont (w1.heap.size,AC,cC) _ ⟨HF.out,HBc.out,HG.out,HCL.out⟩)
    · skip
      refine value_ (w1:=?_) (v:=?_) (by rfl) rfl ?_ ?_
      rotate_left 2
      · go_simp
        constructor
        · rfl
        · rfl
      have HG : Aside0 (X.heap.size ≤ X.heap.size):=⟨HBc.out.size⟩
      have hb : Below X.heap.size X (X.alloc (Obj.cells (List.toArray ((kK 0 0 (qZ (qZ (sZ (fZ (kS ⟨#[]⟩ (mZ [.slice none 0 0]))))))))) 60)):=below_alloc (Below.refl _ _) _
      replace HBc:=aq (HBc.out.trans (hb.mono HBc.out.size))
      have HF:=aq (World.alloc_heap_new X (Obj.cells (List.toArray ((kK 0 0 (qZ (qZ (sZ (fZ (kS ⟨#[]⟩ (mZ [.slice none 0 0]))))))))) 60))
      clear hb
      refine hK.out _ _ ⟨(sC HBc.out z0),(sC HBc.out z1),(sC HBc.out z2),(sC HBc.out z3)⟩ (fun hHeld => ?_)
      clear hK K
      refine sN ?_
      refine sO (i:=1) (N:=some 6) fun K hK => ?_
      refine sG Try.func91 #[.pointer (some ⟨g,0,none⟩)] ?_
      refine (HAN.out (X.alloc (Obj.cells (List.toArray ((kK 0 0 (qZ (qZ (sZ (fZ (kS ⟨#[]⟩ (mZ [.slice none 0 0]))))))))) 60)) HBc.out).mono ?_
      rintro e w1 ⟨rfl,hb⟩
      refine ⟨_,rfl,?_⟩
      replace HF:=aq (blk_below HF.out hb)
      replace HBc:=aq (HBc.out.trans (hb.mono HBc.out.size))
      clear hb
      refine hK.out _ _ ⟨(sC HBc.out z0),(sC HBc.out z1),(sC HBc.out z2),(sC HBc.out z3)⟩ (fun hHeld => ?_)
      clear hK K
      refine sN ?_
      refine sO (i:=23) (N:=some 28) fun K hK => ?_
      refine sG Try.func92 #[.slice A8 ags.length c8] ?_
      refine (HCN.out w1 HBc.out).mono ?_
      rintro e w23 ⟨vC,rfl,hR,hb⟩
      obtain ⟨AC,cC,hvC⟩:=Kd.R_slice hR
      subst hvC
      refine ⟨_,rfl,?_⟩
      replace HF:=aq (blk_below HF.out hb)
      replace HBc:=aq (HBc.out.trans (hb.mono HBc.out.size))
      have HCL:=aq (Kd.R_lower hR (Nat.zero_le _))
      clear hb hR
      refine hK.out _ _ ⟨(sC HBc.out z0),(sC HBc.out z1),(sC HBc.out z2),(sC HBc.out z3)⟩ (fun hHeld => ?_)
      clear hK K
      refine sN ?_
      refine sP (i:=24) (N:=some 29) ?_
      exact norm_ (by simp only [putAll,Act.put,List.setIfInBounds_toArray,List.set_cons_zero,List.set_cons_succ]) (hCont (X.heap.size,AC,cC) _ ⟨HF.out,HBc.out,HG.out,HCL.out⟩)
  rintro ⟨n,AC,cC⟩ w7 ⟨hf,hb,hg,hcl⟩
  replace HBc:=aq hb
  have hHeld : w7.cell? ⟨g,14,none⟩ = some (.string s5) ∧ w7.cell? ⟨g,15,none⟩ = some (.string s6) ∧ w7.cell? ⟨g,16,none⟩ = some (.string s7) ∧ w7.cell? ⟨g,17,none⟩ = some (.slice A8 ags.length c8):=⟨(sC HBc.out z0),(sC HBc.out z1),(sC HBc.out z2),(sC HBc.out z3)⟩
  have HF:=aq hf
  have HG:=aq hg
  have HCL:=aq hcl
  clear hf hb hg hcl
  refine norm_ (a':=?_) ?_ ?_
  rotate_left
  · simp only [putAll,Act.put,List.setIfInBounds_toArray,List.set_cons_zero,List.set_cons_succ]
    rfl
  refine sX (i:=26) (N:=none) fun K hK => ?_
  refine step_store_blk HF.out 60 _ _ 0 38 ((kK 10 0 (qL pa (qZ (sZ (fZ (kS ⟨#[]⟩ (mS s5 s6 s7 [.slice AC ags.length cC])))))))) (by rfl) rfl rfl rfl rfl rfl (show 38 ≤ 38 from Nat.le_refl 38) (by kernel_rfl) rfl (cs':=(List.toArray ((kK 10 0 (qL pa (qZ (sZ (fZ (kS ⟨#[]⟩ (mS s5 s6 s7 [.slice AC ags.length cC])))))))))) (by kernel_rfl) ?_
  intro w8 hq hB hF hsz
  have HZ8:=aq hq
  have HB8:=aq (hB _ _ HG.out HBc.out)
  have HC8:=aq (R_storefar HCL.out HF.out hF)
  clear hq hB hF hsz
  refine hK.out _ _ ?_
  clear hK K
  refine done_ (by kernel_rfl) ?_
  have HS8 : Aside0 (IvS w w8 base g (.slice A0 l0.length c0) (.slice A1 l1.length c1) (.string a2) (.string a3) (.string a4) m pc (.int .i64 20) (.int .i64 ia) (.int .i64 ib) (.int .i64 ic) (.int .i64 id) (.string s5) (.string s6) (.string s7) (.slice A8 ags.length c8) v v l n (List.toArray ((kK 10 0 (qL pa (qZ (sZ (fZ (kS ⟨#[]⟩ (mS s5 s6 s7 [.slice AC ags.length cC]))))))))) 60):=⟨IvS.inner HM0.out HXB.out HBz.out HB8.out HZ8.out HG.out⟩
  have HN0 : Aside0 (w.heap.size ≤ n):=⟨Nat.le_trans HXB.out.size HG.out⟩
  have HBW8 : Aside0 (Below w.heap.size w w8):=⟨HXB.out.trans (HB8.out.mono HXB.out.size)⟩
  clear hHeld z0 z1 z2 z3 HM0 HBc HXB HF HCL HB8 HZ8 HG HAN HCN
  have k9 : w8.cell? ⟨g,9,none⟩ = some (.int .i64 20):=blk_cell HS8.out.hm.b 9
  have k37 : w8.cell? ⟨n,37,none⟩ = some (.slice AC ags.length cC):=blk_cell HS8.out.hz 37
  by_cases hag0 : ags = []
  · subst hag0
    go_wp2_with fail
    exact bodyPost_ret (v:=.tuple #[]) (by simp [results,Try.results73,go_sem]) rfl (by first|exact ⟨_,[],rfl,(by rw [List.append_nil];exact HS8.out.hm),Nat.le_of_ble_eq_true rfl,asked_nil,HS8.out.hB,HS8.out.hK⟩|exact ⟨rfl,_,[],(by rw [List.append_nil];exact HS8.out.hm),Nat.le_of_ble_eq_true rfl,asked_nil,HS8.out.hB,HS8.out.hK⟩)
  have hpn : 0 < ags.length:=List.length_pos_iff.2 hag0
  have HE : Aside0 (ags.isEmpty = false):=⟨by cases ags with|nil => exact absurd rfl hag0|cons a b => rfl⟩
  have hne : ((ags.length : Int) == 0) = false:=beq_eq_false_iff_ne.2 (by omega)
  have hpos : (0 : Int) < (ags.length : Int):=by omega
  clear hag0
  obtain ⟨_,hcC,hCC⟩:=Kd.R_reads' HC8.out
  obtain ⟨ad,hA,hx0⟩:=int_at hCC 0 hpn
  subst hA
  rw [show ad.add 0 = ad from by unfold Addr.add;simp] at hx0
  obtain ⟨x0,hxe⟩ : ∃ x0,ags.getD 0 0 = x0:=⟨_,rfl⟩
  have HX0 : Aside0 (x0 ∈ ags):=⟨by
    rw [← hxe,List.getD_eq_getElem?_getD,List.getElem?_eq_getElem hpn]
    exact List.getElem_mem hpn⟩
  rw [hxe] at hx0
  have hadn : ad.block ≠ n:=R_not HC8.out HS8.out.hz
  clear hcC hCC hxe
  go_wp2_with fail
  refine (maker_reg g (.slice A0 l0.length c0) (.slice A1 l1.length c1) (.string a2) (.string a3) (.string a4) m pc (.int .i64 20) (.int .i64 ia) (.int .i64 ib) (.int .i64 ic) (.int .i64 id) (.string s5) (.string s6) (.string s7) (.slice A8 ags.length c8) v x0 w8 HS8.out.hm.b).mono ?_
  rintro e w10 ⟨rfl,hb⟩
  have HS10:=aq (HS8.out.below hb)
  clear hb k9 k37 hx0
  go_wp2_with (first
    | (refine wpList_store_blk HS10.out.hz 50 _ _ 14 12 [.int .i64 1,.string m.f0,.string m.f1,.string m.f2,.int .i64 x0,.string ⟨#[]⟩,.string ⟨#[]⟩,.string ⟨#[]⟩,.string ⟨#[]⟩,.string ⟨#[]⟩,.int .i64 0,.string ⟨#[]⟩] rfl rfl rfl rfl rfl (show 26 ≤ 38 from Nat.le_add_right 26 12) (by kernel_rfl) rfl (cs':=(List.toArray ((kK 10 0 (qL pa (qR 1 m x0 (sZ (fZ (kS ⟨#[]⟩ (mS s5 s6 s7 [.slice (some ad) ags.length cC])))))))))) (by kernel_rfl) ?_;intro w11 hq hB hF hsz;have HS11:=aq (HS10.out.store HN0.out HBz.out hq hB hF hsz);clear hq hB hF hsz)
    | (refine wpList_load_blk HS11.out.hz 60 _ 0 38 ((kK 10 0 (qL pa (qR 1 m x0 (sZ (fZ (kS ⟨#[]⟩ (mS s5 s6 s7 [.slice (some ad) ags.length cC])))))))) _ rfl rfl rfl rfl (by kernel_rfl) Try.underlying60 rfl (by kernel_rfl) ?_)
    | fail)
  refine (put_plain base g (.slice A0 l0.length c0) (.slice A1 l1.length c1) (.string a2) (.string a3) (.string a4) m pc (.int .i64 20) (.int .i64 ia) (.int .i64 ib) (.int .i64 ic) (.int .i64 id) (.string s5) (.string s6) (.string s7) (.slice A8 ags.length c8) v l (⟨10,0,pa,(⟨1,m,x0,z44,z46⟩ : S50),⟨z25,0,⟨#[]⟩⟩,z44,⟨#[]⟩,⟨s5,s6,s7⟩,(some ad,ags.length,cC)⟩ : CV) w11 HS11.out.hm (show (10 : Int) ≠ 1 by decide) (by have:=HL.out;(try simp only [List.length_append,List.length_cons,List.length_nil]);omega) HS11.out.hs).mono ?_
  rintro e w12 ⟨v12,rfl,hm,hb,hk⟩
  have HS12:=aq (HS11.out.put hm hb hk)
  clear hm hb hk
  go_wp2_with fail
  exact bodyPost_end (v:=.tuple #[]) (by simp [results,Try.results73,go_sem]) rfl (by first|exact ⟨_,[(⟨10,pc,pa,(⟨1,m,x0,z44,z46⟩ : S50),⟨m,0,⟨#[]⟩⟩,z44,⟨#[]⟩,⟨s5,s6,s7⟩,(some ad,ags.length,cC)⟩ : CV)],rfl,HS12.out.hm,Nat.le_of_ble_eq_true rfl,(by rw [HE.out];exact (asked_ans (s:=s7) rfl rfl HPA.out.symm (by simp [usesR]) (fun _ => ⟨rfl,by rw [show usesR (⟨20,ia,ib,ic,id,s5,s6,s7,ags⟩ : S74) = ia :: ags from by simp [usesR]];exact List.mem_cons_of_mem _ HX0.out⟩) asked_nil)),HS12.out.hB,HS12.out.hK⟩|exact ⟨rfl,_,[(⟨10,pc,pa,(⟨1,m,x0,z44,z46⟩ : S50),⟨m,0,⟨#[]⟩⟩,z44,⟨#[]⟩,⟨s5,s6,s7⟩,(some ad,ags.length,cC)⟩ : CV)],HS12.out.hm,Nat.le_of_ble_eq_true rfl,(by rw [HE.out];exact (asked_ans (s:=s7) rfl rfl HPA.out.symm (by simp [usesR]) (fun _ => ⟨rfl,by rw [show usesR (⟨20,ia,ib,ic,id,s5,s6,s7,ags⟩ : S74) = ia :: ags from by simp [usesR]];exact List.mem_cons_of_mem _ HX0.out⟩) asked_nil)),HS12.out.hB,HS12.out.hK⟩)
theorem mk_call21 (base g : Nat) (A0 : Option Addr) (c0 : Nat) (l0 : List S33) (A1 : Option Addr) (c1 : Nat) (l1 : List ByteArray) (a2 a3 a4 : ByteArray) (m : S25) (pc : Int) (ia ib ic id : Int) (s5 s6 s7 : ByteArray) (A8 : Option Addr) (c8 : Nat) (ags : List Int) (v : Value) (l : List CV) (w : World) (hm : MkOwn w base g (.slice A0 l0.length c0) (.slice A1 l1.length c1) (.string a2) (.string a3) (.string a4) m pc (.int .i64 21) (.int .i64 ia) (.int .i64 ib) (.int .i64 ic) (.int .i64 id) (.string s5) (.string s6) (.string s7) (.slice A8 ags.length c8) v l) (hl : l.length + 2 ≤ 1048576) (hbz : base ≤ w.heap.size) (hr0 : Kd.C k33 w A0 l0.length l0) (hc0 : l0.length ≤ c0) (hr1 : Kd.C Kd.string w A1 l1.length l1) (hc1 : l1.length ≤ c1) (hM : MaxL w) (hs7 : s7.size ≤ 1048576) (hC8 : Kd.C (Kd.int .i64) w A8 ags.length ags) (hc8 : ags.length ≤ c8) (hag : ags.length ≤ 1048576) :
    Calls Try.prog 73 #[.pointer (some ⟨g,0,none⟩)] w fun e w' => ∃ v' ins,e = .returned (.tuple #[]) ∧ MkOwn w' base g (.slice A0 l0.length c0) (.slice A1 l1.length c1) (.string a2) (.string a3) (.string a4) m pc (.int .i64 21) (.int .i64 ia) (.int .i64 ib) (.int .i64 ic) (.int .i64 id) (.string s5) (.string s6) (.string s7) (.slice A8 ags.length c8) v' (l ++ ins) ∧ ins.length ≤ 3 ∧ Asked m pc (⟨21,ia,ib,ic,id,s5,s6,s7,ags⟩ : S74) ins ((!ags.isEmpty) && ansB s7) ∧ Below base w w' ∧ Kp w w' g v v':=by
  have HXB : Aside0 (Below w.heap.size w w.drew):=⟨below_drew1 (Below.refl _ _)⟩
  obtain ⟨pa,hpa⟩ : ∃ pa,ansP m ia s7 = pa:=⟨_,rfl⟩
  have HPA:=aq hpa
  have HM0 : Aside0 (MkOwn w.drew base g (.slice A0 l0.length c0) (.slice A1 l1.length c1) (.string a2) (.string a3) (.string a4) m pc (.int .i64 21) (.int .i64 ia) (.int .i64 ib) (.int .i64 ic) (.int .i64 id) (.string s5) (.string s6) (.string s7) (.slice A8 ags.length c8) v l):=⟨hm.below HXB.out hbz⟩
  have HAN : Aside0 (∀ W,Below w.drew.heap.size w.drew W → Calls Try.prog 91 #[.pointer (some ⟨g,0,none⟩)] W fun e w' => e = .returned (.agg (List.toArray (qL pa []))) ∧ Below W.heap.size W w'):=⟨fun W hW => by
    have h:=mk_answer g (.slice A0 l0.length c0) (.slice A1 l1.length c1) (.string a2) (.string a3) (.string a4) m pc (.int .i64 21) ia (.int .i64 ib) (.int .i64 ic) (.int .i64 id) (.string s5) (.string s6) s7 (.slice A8 ags.length c8) v W (blk_below HM0.out.b hW) (max_below hM (HXB.out.trans (hW.mono HXB.out.size))) hs7
    rw [hpa] at h
    exact h⟩
  have HCN : Aside0 (∀ W,Below w.drew.heap.size w.drew W → Calls Try.prog 92 #[.slice A8 ags.length c8] W fun e w' => ∃ v0_ : Value,e = .returned v0_ ∧ Kd.R (Kd.int .i64) 3 w' W.heap.size (fun _ => True) v0_ ags ∧ Below W.heap.size W w'):=⟨fun W hW => slices_Clone_int_int.calls A8 c8 ags ags W (Kd.C_below hC8 (HXB.out.trans (hW.mono HXB.out.size))) hc8 (if_pos hag)⟩
  have HBc : Aside0 (Below w.drew.heap.size w.drew w.drew):=⟨Below.refl _ _⟩
  have HBz:=aq hbz
  have HL:=aq hl
  have HAG:=aq hag
  clear hm hl hbz hr0 hr1 hM hs7 hC8 hag hpa
  have z0 : w.drew.cell? ⟨g,14,none⟩ = some (.string s5):=blk_cell HM0.out.b 14
  have z1 : w.drew.cell? ⟨g,15,none⟩ = some (.string s6):=blk_cell HM0.out.b 15
  have z2 : w.drew.cell? ⟨g,16,none⟩ = some (.string s7):=blk_cell HM0.out.b 16
  have z3 : w.drew.cell? ⟨g,17,none⟩ = some (.slice A8 ags.length c8):=blk_cell HM0.out.b 17
  go_enter Try.func73,Try.ntmps73
  go_wp2_with fail
  refine start_ (n:=27) (S:=fun w' => w'.cell? ⟨g,14,none⟩ = some (.string s5) ∧ w'.cell? ⟨g,15,none⟩ = some (.string s6) ∧ w'.cell? ⟨g,16,none⟩ = some (.string s7) ∧ w'.cell? ⟨g,17,none⟩ = some (.slice A8 ags.length c8)) (ds:=[26]) (Array.replicate 27 false) (by kernel_rfl) rfl rfl ⟨z0,z1,z2,z3⟩ (fun hHeld => ?_)
  generalize w.drew = X at HM0 HAN HCN HBc HXB z0 z1 z2 z3 hHeld ⊢
  refine sP (i:=0) (N:=some 5) ?_
  refine sP (i:=2) (N:=some 7) ?_
  refine sP (i:=3) (N:=some 8) ?_
  refine sP (i:=4) (N:=some 9) ?_
  refine sP (i:=5) (N:=some 10) ?_
  refine sP (i:=7) (N:=some 12) ?_
  refine sP (i:=8) (N:=some 13) ?_
  refine sP (i:=9) (N:=some 14) ?_
  refine sP (i:=10) (N:=some 15) ?_
  refine sP (i:=12) (N:=some 17) ?_
  refine sP (i:=13) (N:=some 18) ?_
  refine sP (i:=14) (N:=some 19) ?_
  refine sP (i:=15) (N:=some 20) ?_
  refine sP (i:=18) (N:=some 23) ?_
  refine sP (i:=19) (N:=some 24) ?_
  refine sP (i:=20) (N:=some 25) ?_
  refine sP (i:=21) (N:=some 26) ?_
  refine sT (i:=6) (N:=some 11) hHeld ?_
  refine sT (i:=11) (N:=some 16) hHeld ?_
  refine sT (i:=16) (N:=some 21) hHeld ?_
  refine sP (i:=17) (N:=some 22) ?_
  refine sT (i:=22) (N:=some 27) hHeld ?_
  refine join_ (σ:=Nat × Option Addr × Nat) 1 #[true,true,true,true,true,true,true,true,true,true,true,true,true,true,true,true,true,true,true,true,true,true,true,true,true,true,false] (fun s => [(6,.agg (List.toArray (qL pa []))),(28,.slice s.2.1 ags.length s.2.2),(29,.agg (List.toArray ((kK 10 0 (qL pa (qZ (sZ (fZ (kS ⟨#[]⟩ (mS s5 s6 s7 [.slice s.2.1 ags.length s.2.2])))))))))),(2,.pointer (some ⟨s.1,0,none⟩))]) (fun s w' => w'.heap[s.1]? = some (Obj.cells (List.toArray ((kK 0 0 (qZ (qZ (sZ (fZ (kS ⟨#[]⟩ (mZ [.slice none 0 0]))))))))) 60 (0,0)) ∧ Below X.heap.size X w' ∧ X.heap.size ≤ s.1 ∧ Kd.R (Kd.int .i64) 3 w' 0 (fun _ => True) (.slice s.2.1 ags.length s.2.2) ags) ?_ ?_
  rotate_left
  · intro hCont
    refine sW (i:=1) (j:=25) (Ni:=some 6) (Nj:=some 2) (fun K hK => ?_) fun K hK => ?_
    · skip
      refine sG Try.func91 #[.pointer (some ⟨g,0,none⟩)] ?_
      refine (HAN.out X HBc.out).mono ?_
      rintro e w1 ⟨rfl,hb⟩
      refine ⟨_,rfl,?_⟩
      replace HBc:=aq (HBc.out.trans (hb.mono HBc.out.size))
      clear hb
      refine hK.out _ _ ⟨(sC HBc.out z0),(sC HBc.out z1),(sC HBc.out z2),(sC HBc.out z3)⟩ (fun hHeld => ?_)
      clear hK K
      refine sN ?_
      refine sW (i:=23) (j:=25) (Ni:=some 28) (Nj:=some 2) (fun K hK => ?_) fun K hK => ?_
      · skip
        refine sG Try.func92 #[.slice A8 ags.length c8] ?_
        refine (HCN.out w1 HBc.out).mono ?_
        rintro e w23 ⟨vC,rfl,hR,hb⟩
        obtain ⟨AC,cC,hvC⟩:=Kd.R_slice hR
        subst hvC
        refine ⟨_,rfl,?_⟩
        replace HBc:=aq (HBc.out.trans (hb.mono HBc.out.size))
        have HCL:=aq (Kd.R_lower hR (Nat.zero_le _))
        clear hb hR
        refine hK.out _ _ ⟨(sC HBc.out z0),(sC HBc.out z1),(sC HBc.out z2),(sC HBc.out z3)⟩ (fun hHeld => ?_)
        clear hK K
        refine sN ?_
        refine sP (i:=24) (N:=some 29) ?_
        refine sO (i:=25) (N:=some 2) fun K hK => ?_
        refine value_ (w1:=?_) (v:=?_) (by rfl) rfl ?_ ?_
        rotate_left 2
        · go_simp
          constructor
          · rfl
          · rfl
        have HG : Aside0 (X.heap.size ≤ w23.heap.size):=⟨HBc.out.size⟩
        have hb : Below w23.heap.size w23 (w23.alloc (Obj.cells (List.toArray ((kK 0 0 (qZ (qZ (sZ (fZ (kS ⟨#[]⟩ (mZ [.slice none 0 0]))))))))) 60)):=below_alloc (Below.refl _ _) _
        replace HCL:=aq (Kd.R_below HCL.out hb)
        replace HBc:=aq (HBc.out.trans (hb.mono HBc.out.size))
        have HF:=aq (World.alloc_heap_new w23 (Obj.cells (List.toArray ((kK 0 0 (qZ (qZ (sZ (fZ (kS ⟨#[]⟩ (mZ [.slice none 0 0]))))))))) 60))
        clear hb
        refine hK.out _ _ ⟨(sC HBc.out z0),(sC HBc.out z1),(sC HBc.out z2),(sC HBc.out z3)⟩ (fun hHeld => ?_)
        clear hK K
        refine sN ?_
        exact norm_ (by simp only [putAll,Act.put,List.setIfInBounds_toArray,List.set_cons_zero,List.set_cons_succ]) (hCont (w23.heap.size,AC,cC) _ ⟨HF.out,HBc.out,HG.out,HCL.out⟩)
      · skip
        refine value_ (w1:=?_) (v:=?_) (by rfl) rfl ?_ ?_
        rotate_left 2
        · go_simp
          constructor
          · rfl
          · rfl
        have HG : Aside0 (X.heap.size ≤ w1.heap.size):=⟨HBc.out.size⟩
        have hb : Below w1.heap.size w1 (w1.alloc (Obj.cells (List.toArray ((kK 0 0 (qZ (qZ (sZ (fZ (kS ⟨#[]⟩ (mZ [.slice none 0 0]))))))))) 60)):=below_alloc (Below.refl _ _) _
        replace HBc:=aq (HBc.out.trans (hb.mono HBc.out.size))
        have HF:=aq (World.alloc_heap_new w1 (Obj.cells (List.toArray ((kK 0 0 (qZ (qZ (sZ (fZ (kS ⟨#[]⟩ (mZ [.slice none 0 0]))))))))) 60))
        clear hb
        refine hK.out _ _ ⟨(sC HBc.out z0),(sC HBc.out z1),(sC HBc.out z2),(sC HBc.out z3)⟩ (fun hHeld => ?_)
        clear hK K
        refine sN ?_
        refine sO (i:=23) (N:=some 28) fun K hK => ?_
        refine sG Try.func92 #[.slice A8 ags.length c8] ?_
        refine (HCN.out (w1.alloc (Obj.cells (List.toArray ((kK 0 0 (qZ (qZ (sZ (fZ (kS ⟨#[]⟩ (mZ [.slice none 0 0]))))))))) 60)) HBc.out).mono ?_
        rintro e w23 ⟨vC,rfl,hR,hb⟩
        obtain ⟨AC,cC,hvC⟩:=Kd.R_slice hR
        subst hvC
        refine ⟨_,rfl,?_⟩
        replace HF:=aq (blk_below HF.out hb)
        replace HBc:=aq (HBc.out.trans (hb.mono HBc.out.size))
        have HCL:=aq (Kd.R_lower hR (Nat.zero_le _))
        clear hb hR
        refine hK.out _ _ ⟨(sC HBc.out z0),(sC HBc.out z1),(sC HBc.out z2),(sC HBc.out z3)⟩ (fun hHeld => ?_)
        clear hK K
        refine sN ?_
        refine sP (i:=24) (N:=some 29) ?_
        exact norm_ (by simp only [putAll,Act.put,List.setIfInBounds_toArray,List.set_cons_zero,List.set_cons_succ]) (hCont (w1.heap.size,AC,cC) _ ⟨HF.out,HBc.out,HG.out,HCL.out⟩)
    · skip
      refine value_ (w1:=?_) (v:=?_) (by rfl) rfl ?_ ?_
      rotate_left 2
      · go_simp
        constructor
        · rfl
        · rfl
      have HG : Aside0 (X.heap.size ≤ X.heap.size):=⟨HBc.out.size⟩
      have hb : Below X.heap.size X (X.alloc (Obj.cells (List.toArray ((kK 0 0 (qZ (qZ (sZ (fZ (kS ⟨#[]⟩ (mZ [.slice none 0 0]))))))))) 60)):=below_alloc (Below.refl _ _) _
      replace HBc:=aq (HBc.out.trans (hb.mono HBc.out.size))
      have HF:=aq (World.alloc_heap_new X (Obj.cells (List.toArray ((kK 0 0 (qZ (qZ (sZ (fZ (kS ⟨#[]⟩ (mZ [.slice none 0 0]))))))))) 60))
      clear hb
      refine hK.out _ _ ⟨(sC HBc.out z0),(sC HBc.out z1),(sC HBc.out z2),(sC HBc.out z3)⟩ (fun hHeld => ?_)
      clear hK K
      refine sN ?_
      refine sO (i:=1) (N:=some 6) fun K hK => ?_
      refine sG Try.func91 #[.pointer (some ⟨g,0,none⟩)] ?_
      refine (HAN.out (X.alloc (Obj.cells (List.toArray ((kK 0 0 (qZ (qZ (sZ (fZ (kS ⟨#[]⟩ (mZ [.slice none 0 0]))))))))) 60)) HBc.out).mono ?_
      rintro e w1 ⟨rfl,hb⟩
      refine ⟨_,rfl,?_⟩
      replace HF:=aq (blk_below HF.out hb)
      replace HBc:=aq (HBc.out.trans (hb.mono HBc.out.size))
      clear hb
      refine hK.out _ _ ⟨(sC HBc.out z0),(sC HBc.out z1),(sC HBc.out z2),(sC HBc.out z3)⟩ (fun hHeld => ?_)
      clear hK K
      refine sN ?_
      refine sO (i:=23) (N:=some 28) fun K hK => ?_
      refine sG Try.func92 #[.slice A8 ags.length c8] ?_
      refine (HCN.out w1 HBc.out).mono ?_
      rintro e w23 ⟨vC,rfl,hR,hb⟩
      obtain ⟨AC,cC,hvC⟩:=Kd.R_slice hR
      subst hvC
      refine ⟨_,rfl,?_⟩
      replace HF:=aq (blk_below HF.out hb)
      replace HBc:=aq (HBc.out.trans (hb.mono HBc.out.size))
      have HCL:=aq (Kd.R_lower hR (Nat.zero_le _))
      clear hb hR
      refine hK.out _ _ ⟨(sC HBc.out z0),(sC HBc.out z1),(sC HBc.out z2),(sC HBc.out z3)⟩ (fun hHeld => ?_)
      clear hK K
      refine sN ?_
      refine sP (i:=24) (N:=some 29) ?_
      exact norm_ (by simp only [putAll,Act.put,List.setIfInBounds_toArray,List.set_cons_zero,List.set_cons_succ]) (hCont (X.heap.size,AC,cC) _ ⟨HF.out,HBc.out,HG.out,HCL.out⟩)
  rintro ⟨n,AC,cC⟩ w7 ⟨hf,hb,hg,hcl⟩
  replace HBc:=aq hb
  have hHeld : w7.cell? ⟨g,14,none⟩ = some (.string s5) ∧ w7.cell? ⟨g,15,none⟩ = some (.string s6) ∧ w7.cell? ⟨g,16,none⟩ = some (.string s7) ∧ w7.cell? ⟨g,17,none⟩ = some (.slice A8 ags.length c8):=⟨(sC HBc.out z0),(sC HBc.out z1),(sC HBc.out z2),(sC HBc.out z3)⟩
  have HF:=aq hf
  have HG:=aq hg
  have HCL:=aq hcl
  clear hf hb hg hcl
  refine norm_ (a':=?_) ?_ ?_
  rotate_left
  · simp only [putAll,Act.put,List.setIfInBounds_toArray,List.set_cons_zero,List.set_cons_succ]
    rfl
  refine sX (i:=26) (N:=none) fun K hK => ?_
  refine step_store_blk HF.out 60 _ _ 0 38 ((kK 10 0 (qL pa (qZ (sZ (fZ (kS ⟨#[]⟩ (mS s5 s6 s7 [.slice AC ags.length cC])))))))) (by rfl) rfl rfl rfl rfl rfl (show 38 ≤ 38 from Nat.le_refl 38) (by kernel_rfl) rfl (cs':=(List.toArray ((kK 10 0 (qL pa (qZ (sZ (fZ (kS ⟨#[]⟩ (mS s5 s6 s7 [.slice AC ags.length cC])))))))))) (by kernel_rfl) ?_
  intro w8 hq hB hF hsz
  have HZ8:=aq hq
  have HB8:=aq (hB _ _ HG.out HBc.out)
  have HC8:=aq (R_storefar HCL.out HF.out hF)
  clear hq hB hF hsz
  refine hK.out _ _ ?_
  clear hK K
  refine done_ (by kernel_rfl) ?_
  have HS8 : Aside0 (IvS w w8 base g (.slice A0 l0.length c0) (.slice A1 l1.length c1) (.string a2) (.string a3) (.string a4) m pc (.int .i64 21) (.int .i64 ia) (.int .i64 ib) (.int .i64 ic) (.int .i64 id) (.string s5) (.string s6) (.string s7) (.slice A8 ags.length c8) v v l n (List.toArray ((kK 10 0 (qL pa (qZ (sZ (fZ (kS ⟨#[]⟩ (mS s5 s6 s7 [.slice AC ags.length cC]))))))))) 60):=⟨IvS.inner HM0.out HXB.out HBz.out HB8.out HZ8.out HG.out⟩
  have HN0 : Aside0 (w.heap.size ≤ n):=⟨Nat.le_trans HXB.out.size HG.out⟩
  have HBW8 : Aside0 (Below w.heap.size w w8):=⟨HXB.out.trans (HB8.out.mono HXB.out.size)⟩
  clear hHeld z0 z1 z2 z3 HM0 HBc HXB HF HCL HB8 HZ8 HG HAN HCN
  have k9 : w8.cell? ⟨g,9,none⟩ = some (.int .i64 21):=blk_cell HS8.out.hm.b 9
  have HS9:=aq (HS8.out.set1 HN0.out HBz.out 33 (.string s5) (cs':=(List.toArray ((kK 10 0 (qL pa (qZ (sZ (fZ (kS s5 (mS s5 s6 s7 [.slice AC ags.length cC])))))))))) (by kernel_rfl))
  have k14 : w8.cell? ⟨g,14,none⟩ = some (.string s5):=blk_cell HS8.out.hm.b 14
  have k33 : w8.cell? ⟨n,33,none⟩ = some (.string ⟨#[]⟩):=blk_cell HS8.out.hz 33
  have nf:=blk_frozen HS8.out.hz 33
  have HC9:=aq (R_storefar HC8.out HS8.out.hz (fun k ob hk hb => (Below.heap_setCell _ _ _ _ (show k ≠ (⟨n,33,none⟩ : Addr).block from hk)).trans hb) (W':=w8.setCell ⟨n,33,none⟩ (.string s5)))
  clear k9
  have k9 : w8.cell? ⟨g,9,none⟩ = some (.int .i64 21):=blk_cell HS8.out.hm.b 9
  have k37 : w8.cell? ⟨n,37,none⟩ = some (.slice AC ags.length cC):=blk_cell HS8.out.hz 37
  by_cases hag0 : ags = []
  · subst hag0
    go_wp2_with fail
    exact bodyPost_ret (v:=.tuple #[]) (by simp [results,Try.results73,go_sem]) rfl (by first|exact ⟨_,[],rfl,(by rw [List.append_nil];exact HS9.out.hm),Nat.le_of_ble_eq_true rfl,asked_nil,HS9.out.hB,HS9.out.hK⟩|exact ⟨rfl,_,[],(by rw [List.append_nil];exact HS9.out.hm),Nat.le_of_ble_eq_true rfl,asked_nil,HS9.out.hB,HS9.out.hK⟩)
  have hpn : 0 < ags.length:=List.length_pos_iff.2 hag0
  have HE : Aside0 (ags.isEmpty = false):=⟨by cases ags with|nil => exact absurd rfl hag0|cons a b => rfl⟩
  have hne : ((ags.length : Int) == 0) = false:=beq_eq_false_iff_ne.2 (by omega)
  have hpos : (0 : Int) < (ags.length : Int):=by omega
  clear hag0
  obtain ⟨_,hcC,hCC⟩:=Kd.R_reads' HC8.out
  obtain ⟨ad,hA,hx0⟩:=int_at hCC 0 hpn
  subst hA
  rw [show ad.add 0 = ad from by unfold Addr.add;simp] at hx0
  obtain ⟨x0,hxe⟩ : ∃ x0,ags.getD 0 0 = x0:=⟨_,rfl⟩
  have HX0 : Aside0 (x0 ∈ ags):=⟨by
    rw [← hxe,List.getD_eq_getElem?_getD,List.getElem?_eq_getElem hpn]
    exact List.getElem_mem hpn⟩
  rw [hxe] at hx0
  have hadn : ad.block ≠ n:=R_not HC8.out HS8.out.hz
  clear hcC hCC hxe
  have hx1 : (w8.setCell ⟨n,33,none⟩ (.string s5)).cell? ad = some (.int .i64 x0):=(cell_far (p:=⟨n,33,none⟩) (a:=ad) hadn _).trans hx0
  go_wp2_with fail
  refine (maker_reg g (.slice A0 l0.length c0) (.slice A1 l1.length c1) (.string a2) (.string a3) (.string a4) m pc (.int .i64 21) (.int .i64 ia) (.int .i64 ib) (.int .i64 ic) (.int .i64 id) (.string s5) (.string s6) (.string s7) (.slice A8 ags.length c8) v x0 (w8.setCell ⟨n,33,none⟩ (.string s5)) HS9.out.hm.b).mono ?_
  rintro e w10 ⟨rfl,hb⟩
  have HS10:=aq (HS9.out.below hb)
  clear hb k9 k37 hx0 hx1
  go_wp2_with (first
    | (refine wpList_store_blk HS10.out.hz 50 _ _ 14 12 [.int .i64 1,.string m.f0,.string m.f1,.string m.f2,.int .i64 x0,.string ⟨#[]⟩,.string ⟨#[]⟩,.string ⟨#[]⟩,.string ⟨#[]⟩,.string ⟨#[]⟩,.int .i64 0,.string ⟨#[]⟩] rfl rfl rfl rfl rfl (show 26 ≤ 38 from Nat.le_add_right 26 12) (by kernel_rfl) rfl (cs':=(List.toArray ((kK 10 0 (qL pa (qR 1 m x0 (sZ (fZ (kS s5 (mS s5 s6 s7 [.slice (some ad) ags.length cC])))))))))) (by kernel_rfl) ?_;intro w11 hq hB hF hsz;have HS11:=aq (HS10.out.store HN0.out HBz.out hq hB hF hsz);clear hq hB hF hsz)
    | (refine wpList_load_blk HS11.out.hz 60 _ 0 38 ((kK 10 0 (qL pa (qR 1 m x0 (sZ (fZ (kS s5 (mS s5 s6 s7 [.slice (some ad) ags.length cC])))))))) _ rfl rfl rfl rfl (by kernel_rfl) Try.underlying60 rfl (by kernel_rfl) ?_)
    | fail)
  refine (put_plain base g (.slice A0 l0.length c0) (.slice A1 l1.length c1) (.string a2) (.string a3) (.string a4) m pc (.int .i64 21) (.int .i64 ia) (.int .i64 ib) (.int .i64 ic) (.int .i64 id) (.string s5) (.string s6) (.string s7) (.slice A8 ags.length c8) v l (⟨10,0,pa,(⟨1,m,x0,z44,z46⟩ : S50),⟨z25,0,⟨#[]⟩⟩,z44,s5,⟨s5,s6,s7⟩,(some ad,ags.length,cC)⟩ : CV) w11 HS11.out.hm (show (10 : Int) ≠ 1 by decide) (by have:=HL.out;(try simp only [List.length_append,List.length_cons,List.length_nil]);omega) HS11.out.hs).mono ?_
  rintro e w12 ⟨v12,rfl,hm,hb,hk⟩
  have HS12:=aq (HS11.out.put hm hb hk)
  clear hm hb hk
  go_wp2_with fail
  exact bodyPost_end (v:=.tuple #[]) (by simp [results,Try.results73,go_sem]) rfl (by first|exact ⟨_,[(⟨10,pc,pa,(⟨1,m,x0,z44,z46⟩ : S50),⟨m,0,⟨#[]⟩⟩,z44,s5,⟨s5,s6,s7⟩,(some ad,ags.length,cC)⟩ : CV)],rfl,HS12.out.hm,Nat.le_of_ble_eq_true rfl,(by rw [HE.out];exact (asked_ans (s:=s7) rfl rfl HPA.out.symm (by simp [usesR]) (fun _ => ⟨rfl,by rw [show usesR (⟨21,ia,ib,ic,id,s5,s6,s7,ags⟩ : S74) = ia :: ags from by simp [usesR]];exact List.mem_cons_of_mem _ HX0.out⟩) asked_nil)),HS12.out.hB,HS12.out.hK⟩|exact ⟨rfl,_,[(⟨10,pc,pa,(⟨1,m,x0,z44,z46⟩ : S50),⟨m,0,⟨#[]⟩⟩,z44,s5,⟨s5,s6,s7⟩,(some ad,ags.length,cC)⟩ : CV)],HS12.out.hm,Nat.le_of_ble_eq_true rfl,(by rw [HE.out];exact (asked_ans (s:=s7) rfl rfl HPA.out.symm (by simp [usesR]) (fun _ => ⟨rfl,by rw [show usesR (⟨21,ia,ib,ic,id,s5,s6,s7,ags⟩ : S74) = ia :: ags from by simp [usesR]];exact List.mem_cons_of_mem _ HX0.out⟩) asked_nil)),HS12.out.hB,HS12.out.hK⟩)
theorem iv_call19 (base g : Nat) (A0 : Option Addr) (c0 : Nat) (l0 : List S33) (A1 : Option Addr) (c1 : Nat) (l1 : List ByteArray) (a2 a3 a4 : ByteArray) (m : S25) (pc : Int) (ia ib ic id : Int) (s5 s6 s7 : ByteArray) (A8 : Option Addr) (c8 : Nat) (ags : List Int) (v : Value) (l : List CV) (w : World) (hm : MkOwn w base g (.slice A0 l0.length c0) (.slice A1 l1.length c1) (.string a2) (.string a3) (.string a4) m pc (.int .i64 19) (.int .i64 ia) (.int .i64 ib) (.int .i64 ic) (.int .i64 id) (.string s5) (.string s6) (.string s7) (.slice A8 ags.length c8) v l) (hl : l.length + 2 ≤ 1048576) (hbz : base ≤ w.heap.size) (hr0 : Kd.C k33 w A0 l0.length l0) (hc0 : l0.length ≤ c0) (hr1 : Kd.C Kd.string w A1 l1.length l1) (hc1 : l1.length ≤ c1) (hM : MaxL w) (hs7 : s7.size ≤ 1048576) (hC8 : Kd.C (Kd.int .i64) w A8 ags.length ags) (hc8 : ags.length ≤ c8) (hag : ags.length ≤ 1048576) (t0 t1 t2 : ByteArray) (ok : Bool) (hst : find_Static.f l0 l1 a2 a3 a4 s5 s6 s7 = some (t0, t1, t2, ok)) :
    Calls Try.prog 46 #[.pointer (some ⟨g,0,none⟩)] w fun e w' => ∃ v' ins,e = .returned (.tuple #[]) ∧ MkOwn w' base g (.slice A0 l0.length c0) (.slice A1 l1.length c1) (.string a2) (.string a3) (.string a4) m pc (.int .i64 19) (.int .i64 ia) (.int .i64 ib) (.int .i64 ic) (.int .i64 id) (.string s5) (.string s6) (.string s7) (.slice A8 ags.length c8) v' (l ++ ins) ∧ ins.length ≤ 3 ∧ Asked m pc (⟨19,ia,ib,ic,id,s5,s6,s7,ags⟩ : S74) ins (ok && ansB s7) ∧ Below base w w' ∧ Kp w w' g v v':=by
  have hab:=below_alloc (Below.refl w.heap.size w) (Obj.cells #[.int .i64 19,.int .i64 ia,.int .i64 ib,.int .i64 ic,.int .i64 id,.string s5,.string s6,.string s7,.slice A8 ags.length c8] 74)
  have HC:=aq (fun (h : IvS w (w.alloc (Obj.cells #[.int .i64 19,.int .i64 ia,.int .i64 ib,.int .i64 ic,.int .i64 id,.string s5,.string s6,.string s7,.slice A8 ags.length c8] 74)) base g (.slice A0 l0.length c0) (.slice A1 l1.length c1) (.string a2) (.string a3) (.string a4) m pc (.int .i64 19) (.int .i64 ia) (.int .i64 ib) (.int .i64 ic) (.int .i64 id) (.string s5) (.string s6) (.string s7) (.slice A8 ags.length c8) v v l w.heap.size #[.int .i64 19,.int .i64 ia,.int .i64 ib,.int .i64 ic,.int .i64 id,.string s5,.string s6,.string s7,.slice A8 ags.length c8] 74) => mk_call19 base g A0 c0 l0 A1 c1 l1 a2 a3 a4 m pc ia ib ic id s5 s6 s7 A8 c8 ags v l (w.alloc (Obj.cells #[.int .i64 19,.int .i64 ia,.int .i64 ib,.int .i64 ic,.int .i64 id,.string s5,.string s6,.string s7,.slice A8 ags.length c8] 74)) h.hm hl h.hs (Kd.C_below hr0 hab) hc0 (Kd.C_below hr1 hab) hc1 (max_below hM hab) hs7 (Kd.C_below hC8 hab) hc8 hag t0 t1 t2 ok hst)
  clear hab
  have HS0:=aq (IvS.start hm hbz #[.int .i64 19,.int .i64 ia,.int .i64 ib,.int .i64 ic,.int .i64 id,.string s5,.string s6,.string s7,.slice A8 ags.length c8] 74)
  have HL:=aq hl
  obtain ⟨e9,e10,e11,e12,e13,e14,e15,e16,e17⟩ : w.cell? ⟨g,9,none⟩ = some (.int .i64 19) ∧ w.cell? ⟨g,10,none⟩ = some (.int .i64 ia) ∧ w.cell? ⟨g,11,none⟩ = some (.int .i64 ib) ∧ w.cell? ⟨g,12,none⟩ = some (.int .i64 ic) ∧ w.cell? ⟨g,13,none⟩ = some (.int .i64 id) ∧ w.cell? ⟨g,14,none⟩ = some (.string s5) ∧ w.cell? ⟨g,15,none⟩ = some (.string s6) ∧ w.cell? ⟨g,16,none⟩ = some (.string s7) ∧ w.cell? ⟨g,17,none⟩ = some (.slice A8 ags.length c8):=⟨blk_cell hm.b 9,blk_cell hm.b 10,blk_cell hm.b 11,blk_cell hm.b 12,blk_cell hm.b 13,blk_cell hm.b 14,blk_cell hm.b 15,blk_cell hm.b 16,blk_cell hm.b 17⟩
  clear hm hbz hl
  go_enter Try.func46,Try.ntmps46
  go_wp2_with fail
  clear e9 e10 e11 e12 e13 e14 e15 e16 e17
  refine (HC.out HS0.out).mono ?_
  rintro e w1 ⟨v1,ins,rfl,hm1,hln,hask,hb1,hk1⟩
  have HS1:=aq (HS0.out.put hm1 hb1 hk1)
  have HN:=aq hln
  have HK:=aq hask
  clear hm1 hln hask hb1 hk1
  go_wp2_with fail
  exact bodyPost_end (v:=.tuple #[]) (by simp [results,Try.results46,go_sem]) rfl (by first|exact ⟨_,ins,rfl,HS1.out.hm,HN.out,HK.out,HS1.out.hB,HS1.out.hK⟩|exact ⟨rfl,_,ins,HS1.out.hm,HN.out,HK.out,HS1.out.hB,HS1.out.hK⟩)
theorem iv_call20 (base g : Nat) (A0 : Option Addr) (c0 : Nat) (l0 : List S33) (A1 : Option Addr) (c1 : Nat) (l1 : List ByteArray) (a2 a3 a4 : ByteArray) (m : S25) (pc : Int) (ia ib ic id : Int) (s5 s6 s7 : ByteArray) (A8 : Option Addr) (c8 : Nat) (ags : List Int) (v : Value) (l : List CV) (w : World) (hm : MkOwn w base g (.slice A0 l0.length c0) (.slice A1 l1.length c1) (.string a2) (.string a3) (.string a4) m pc (.int .i64 20) (.int .i64 ia) (.int .i64 ib) (.int .i64 ic) (.int .i64 id) (.string s5) (.string s6) (.string s7) (.slice A8 ags.length c8) v l) (hl : l.length + 2 ≤ 1048576) (hbz : base ≤ w.heap.size) (hr0 : Kd.C k33 w A0 l0.length l0) (hc0 : l0.length ≤ c0) (hr1 : Kd.C Kd.string w A1 l1.length l1) (hc1 : l1.length ≤ c1) (hM : MaxL w) (hs7 : s7.size ≤ 1048576) (hC8 : Kd.C (Kd.int .i64) w A8 ags.length ags) (hc8 : ags.length ≤ c8) (hag : ags.length ≤ 1048576) :
    Calls Try.prog 46 #[.pointer (some ⟨g,0,none⟩)] w fun e w' => ∃ v' ins,e = .returned (.tuple #[]) ∧ MkOwn w' base g (.slice A0 l0.length c0) (.slice A1 l1.length c1) (.string a2) (.string a3) (.string a4) m pc (.int .i64 20) (.int .i64 ia) (.int .i64 ib) (.int .i64 ic) (.int .i64 id) (.string s5) (.string s6) (.string s7) (.slice A8 ags.length c8) v' (l ++ ins) ∧ ins.length ≤ 3 ∧ Asked m pc (⟨20,ia,ib,ic,id,s5,s6,s7,ags⟩ : S74) ins ((!ags.isEmpty) && ansB s7) ∧ Below base w w' ∧ Kp w w' g v v':=by
  have hab:=below_alloc (Below.refl w.heap.size w) (Obj.cells #[.int .i64 20,.int .i64 ia,.int .i64 ib,.int .i64 ic,.int .i64 id,.string s5,.string s6,.string s7,.slice A8 ags.length c8] 74)
  have HC:=aq (fun (h : IvS w (w.alloc (Obj.cells #[.int .i64 20,.int .i64 ia,.int .i64 ib,.int .i64 ic,.int .i64 id,.string s5,.string s6,.string s7,.slice A8 ags.length c8] 74)) base g (.slice A0 l0.length c0) (.slice A1 l1.length c1) (.string a2) (.string a3) (.string a4) m pc (.int .i64 20) (.int .i64 ia) (.int .i64 ib) (.int .i64 ic) (.int .i64 id) (.string s5) (.string s6) (.string s7) (.slice A8 ags.length c8) v v l w.heap.size #[.int .i64 20,.int .i64 ia,.int .i64 ib,.int .i64 ic,.int .i64 id,.string s5,.string s6,.string s7,.slice A8 ags.length c8] 74) => mk_call20 base g A0 c0 l0 A1 c1 l1 a2 a3 a4 m pc ia ib ic id s5 s6 s7 A8 c8 ags v l (w.alloc (Obj.cells #[.int .i64 20,.int .i64 ia,.int .i64 ib,.int .i64 ic,.int .i64 id,.string s5,.string s6,.string s7,.slice A8 ags.length c8] 74)) h.hm hl h.hs (Kd.C_below hr0 hab) hc0 (Kd.C_below hr1 hab) hc1 (max_below hM hab) hs7 (Kd.C_below hC8 hab) hc8 hag)
  clear hab
  have HS0:=aq (IvS.start hm hbz #[.int .i64 20,.int .i64 ia,.int .i64 ib,.int .i64 ic,.int .i64 id,.string s5,.string s6,.string s7,.slice A8 ags.length c8] 74)
  have HL:=aq hl
  obtain ⟨e9,e10,e11,e12,e13,e14,e15,e16,e17⟩ : w.cell? ⟨g,9,none⟩ = some (.int .i64 20) ∧ w.cell? ⟨g,10,none⟩ = some (.int .i64 ia) ∧ w.cell? ⟨g,11,none⟩ = some (.int .i64 ib) ∧ w.cell? ⟨g,12,none⟩ = some (.int .i64 ic) ∧ w.cell? ⟨g,13,none⟩ = some (.int .i64 id) ∧ w.cell? ⟨g,14,none⟩ = some (.string s5) ∧ w.cell? ⟨g,15,none⟩ = some (.string s6) ∧ w.cell? ⟨g,16,none⟩ = some (.string s7) ∧ w.cell? ⟨g,17,none⟩ = some (.slice A8 ags.length c8):=⟨blk_cell hm.b 9,blk_cell hm.b 10,blk_cell hm.b 11,blk_cell hm.b 12,blk_cell hm.b 13,blk_cell hm.b 14,blk_cell hm.b 15,blk_cell hm.b 16,blk_cell hm.b 17⟩
  clear hm hbz hl
  go_enter Try.func46,Try.ntmps46
  go_wp2_with fail
  clear e9 e10 e11 e12 e13 e14 e15 e16 e17
  refine (HC.out HS0.out).mono ?_
  rintro e w1 ⟨v1,ins,rfl,hm1,hln,hask,hb1,hk1⟩
  have HS1:=aq (HS0.out.put hm1 hb1 hk1)
  have HN:=aq hln
  have HK:=aq hask
  clear hm1 hln hask hb1 hk1
  go_wp2_with fail
  exact bodyPost_end (v:=.tuple #[]) (by simp [results,Try.results46,go_sem]) rfl (by first|exact ⟨_,ins,rfl,HS1.out.hm,HN.out,HK.out,HS1.out.hB,HS1.out.hK⟩|exact ⟨rfl,_,ins,HS1.out.hm,HN.out,HK.out,HS1.out.hB,HS1.out.hK⟩)
theorem iv_call21 (base g : Nat) (A0 : Option Addr) (c0 : Nat) (l0 : List S33) (A1 : Option Addr) (c1 : Nat) (l1 : List ByteArray) (a2 a3 a4 : ByteArray) (m : S25) (pc : Int) (ia ib ic id : Int) (s5 s6 s7 : ByteArray) (A8 : Option Addr) (c8 : Nat) (ags : List Int) (v : Value) (l : List CV) (w : World) (hm : MkOwn w base g (.slice A0 l0.length c0) (.slice A1 l1.length c1) (.string a2) (.string a3) (.string a4) m pc (.int .i64 21) (.int .i64 ia) (.int .i64 ib) (.int .i64 ic) (.int .i64 id) (.string s5) (.string s6) (.string s7) (.slice A8 ags.length c8) v l) (hl : l.length + 2 ≤ 1048576) (hbz : base ≤ w.heap.size) (hr0 : Kd.C k33 w A0 l0.length l0) (hc0 : l0.length ≤ c0) (hr1 : Kd.C Kd.string w A1 l1.length l1) (hc1 : l1.length ≤ c1) (hM : MaxL w) (hs7 : s7.size ≤ 1048576) (hC8 : Kd.C (Kd.int .i64) w A8 ags.length ags) (hc8 : ags.length ≤ c8) (hag : ags.length ≤ 1048576) :
    Calls Try.prog 46 #[.pointer (some ⟨g,0,none⟩)] w fun e w' => ∃ v' ins,e = .returned (.tuple #[]) ∧ MkOwn w' base g (.slice A0 l0.length c0) (.slice A1 l1.length c1) (.string a2) (.string a3) (.string a4) m pc (.int .i64 21) (.int .i64 ia) (.int .i64 ib) (.int .i64 ic) (.int .i64 id) (.string s5) (.string s6) (.string s7) (.slice A8 ags.length c8) v' (l ++ ins) ∧ ins.length ≤ 3 ∧ Asked m pc (⟨21,ia,ib,ic,id,s5,s6,s7,ags⟩ : S74) ins ((!ags.isEmpty) && ansB s7) ∧ Below base w w' ∧ Kp w w' g v v':=by
  have hab:=below_alloc (Below.refl w.heap.size w) (Obj.cells #[.int .i64 21,.int .i64 ia,.int .i64 ib,.int .i64 ic,.int .i64 id,.string s5,.string s6,.string s7,.slice A8 ags.length c8] 74)
  have HC:=aq (fun (h : IvS w (w.alloc (Obj.cells #[.int .i64 21,.int .i64 ia,.int .i64 ib,.int .i64 ic,.int .i64 id,.string s5,.string s6,.string s7,.slice A8 ags.length c8] 74)) base g (.slice A0 l0.length c0) (.slice A1 l1.length c1) (.string a2) (.string a3) (.string a4) m pc (.int .i64 21) (.int .i64 ia) (.int .i64 ib) (.int .i64 ic) (.int .i64 id) (.string s5) (.string s6) (.string s7) (.slice A8 ags.length c8) v v l w.heap.size #[.int .i64 21,.int .i64 ia,.int .i64 ib,.int .i64 ic,.int .i64 id,.string s5,.string s6,.string s7,.slice A8 ags.length c8] 74) => mk_call21 base g A0 c0 l0 A1 c1 l1 a2 a3 a4 m pc ia ib ic id s5 s6 s7 A8 c8 ags v l (w.alloc (Obj.cells #[.int .i64 21,.int .i64 ia,.int .i64 ib,.int .i64 ic,.int .i64 id,.string s5,.string s6,.string s7,.slice A8 ags.length c8] 74)) h.hm hl h.hs (Kd.C_below hr0 hab) hc0 (Kd.C_below hr1 hab) hc1 (max_below hM hab) hs7 (Kd.C_below hC8 hab) hc8 hag)
  clear hab
  have HS0:=aq (IvS.start hm hbz #[.int .i64 21,.int .i64 ia,.int .i64 ib,.int .i64 ic,.int .i64 id,.string s5,.string s6,.string s7,.slice A8 ags.length c8] 74)
  have HL:=aq hl
  obtain ⟨e9,e10,e11,e12,e13,e14,e15,e16,e17⟩ : w.cell? ⟨g,9,none⟩ = some (.int .i64 21) ∧ w.cell? ⟨g,10,none⟩ = some (.int .i64 ia) ∧ w.cell? ⟨g,11,none⟩ = some (.int .i64 ib) ∧ w.cell? ⟨g,12,none⟩ = some (.int .i64 ic) ∧ w.cell? ⟨g,13,none⟩ = some (.int .i64 id) ∧ w.cell? ⟨g,14,none⟩ = some (.string s5) ∧ w.cell? ⟨g,15,none⟩ = some (.string s6) ∧ w.cell? ⟨g,16,none⟩ = some (.string s7) ∧ w.cell? ⟨g,17,none⟩ = some (.slice A8 ags.length c8):=⟨blk_cell hm.b 9,blk_cell hm.b 10,blk_cell hm.b 11,blk_cell hm.b 12,blk_cell hm.b 13,blk_cell hm.b 14,blk_cell hm.b 15,blk_cell hm.b 16,blk_cell hm.b 17⟩
  clear hm hbz hl
  go_enter Try.func46,Try.ntmps46
  go_wp2_with fail
  clear e9 e10 e11 e12 e13 e14 e15 e16 e17
  refine (HC.out HS0.out).mono ?_
  rintro e w1 ⟨v1,ins,rfl,hm1,hln,hask,hb1,hk1⟩
  have HS1:=aq (HS0.out.put hm1 hb1 hk1)
  have HN:=aq hln
  have HK:=aq hask
  clear hm1 hln hask hb1 hk1
  go_wp2_with fail
  exact bodyPost_end (v:=.tuple #[]) (by simp [results,Try.results46,go_sem]) rfl (by first|exact ⟨_,ins,rfl,HS1.out.hm,HN.out,HK.out,HS1.out.hB,HS1.out.hK⟩|exact ⟨rfl,_,ins,HS1.out.hm,HN.out,HK.out,HS1.out.hB,HS1.out.hK⟩)
def supS (l0 : List S33) (cl : ByteArray) : List ByteArray := upF (l0.length + 1) l0 [] cl
def setsV (l0 : List S33) (x : S74) : Bool :=
 if x.f0 = 15 ∨ x.f0 = 17 then (fldF l0 (supS l0 x.f5) x.f6).2.2 else if x.f0 = 19 then (decS l0 (supS l0 x.f5) x.f6 x.f7).2.2.2 && ansB x.f7 else if x.f0 = 20 ∨ x.f0 = 21 then (!x.f8.isEmpty) && ansB x.f7
 else if x.f0 = 4 ∨ x.f0 = 25 ∨ x.f0 = 9 ∨ x.f0 = 10 ∨ x.f0 = 11 ∨ x.f0 = 13 ∨ x.f0 = 14 ∨ x.f0 = 28 then true else false
def PutsV (A0 : Option Addr) (c0 : Nat) (l0 : List S33) (A1 : Option Addr) (c1 : Nat) (l1 : List ByteArray) (a2 a3 a4 : ByteArray) (m : S25) (pc : Int) (x : S74) : Prop :=
 ∀ (g : Nat) (A8 : Option Addr) (c8 : Nat) (v : Value) (l : List CV) (W : World),MkOwn W g g (.slice A0 l0.length c0) (.slice A1 l1.length c1) (.string a2) (.string a3) (.string a4) m pc (.int .i64 x.f0) (.int .i64 x.f1) (.int .i64 x.f2) (.int .i64 x.f3) (.int .i64 x.f4) (.string x.f5) (.string x.f6) (.string x.f7) (.slice A8 x.f8.length c8) v l → Kd.C (Kd.int .i64) W A8 x.f8.length x.f8 → x.f8.length ≤ c8 → l.length + 2 ≤ 1048576 → g ≤ W.heap.size →
  Kd.C k33 W A0 l0.length l0 → Kd.C Kd.string W A1 l1.length l1 → MaxL W →
  Calls Try.prog 46 #[.pointer (some ⟨g,0,none⟩)] W fun e w' => ∃ v' ins,e = .returned (.tuple #[]) ∧ MkOwn w' g g (.slice A0 l0.length c0) (.slice A1 l1.length c1) (.string a2) (.string a3) (.string a4) m pc (.int .i64 x.f0) (.int .i64 x.f1) (.int .i64 x.f2) (.int .i64 x.f3) (.int .i64 x.f4) (.string x.f5) (.string x.f6) (.string x.f7) (.slice A8 x.f8.length c8) v' (l ++ ins) ∧ ins.length ≤ 3 ∧ Asked m pc x ins (setsV l0 x) ∧ Below g W w'
def Sized (l0 : List S33) (x : S74) : Prop := l0.length ≤ 8796093022208 ∧ (∀ c ∈ l0, c.f0.size ≤ 9223372036854775807) ∧ x.f5.size ≤ 4611686018427387903 ∧ x.f7.size ≤ 1048576 ∧ x.f8.length ≤ 1048576
theorem sup_eq {l0 : List S33} {l1 : List ByteArray} {a2 a3 a4 : ByteArray} (h1 : l0.length ≤ 8796093022208) (h2 : ∀ c ∈ l0, c.f0.size ≤ 9223372036854775807) (cl : ByteArray) : hier_Supers.f l0 l1 a2 a3 a4 cl = some (supS l0 cl) := if_pos ⟨h2, h1⟩
theorem puts_all (A0 : Option Addr) (c0 : Nat) (l0 : List S33) (A1 : Option Addr) (c1 : Nat) (l1 : List ByteArray) (a2 a3 a4 : ByteArray) (hc0 : l0.length ≤ c0) (hc1 : l1.length ≤ c1) (m : S25) (pc : Int) (x : S74) (hz : Sized l0 x) : PutsV A0 c0 l0 A1 c1 l1 a2 a3 a4 m pc x := by
 obtain ⟨z1,z2,z3,z4,z5⟩:=hz
 intro g A8 c8 v l W hm hC8 hc8 hl hg hr0 hr1 hM
 have hsup:=fun cl => sup_eq (l1:=l1) (a2:=a2) (a3:=a3) (a4:=a4) z1 z2 cl
 obtain ⟨op,ia,ib,ic,id,s5,s6,s7,ags⟩:=x
 have weak : ∀ (s : Bool),s = setsV l0 ⟨op,ia,ib,ic,id,s5,s6,s7,ags⟩ → (Calls Try.prog 46 #[.pointer (some ⟨g,0,none⟩)] W fun e w' => ∃ v' ins,e = .returned (.tuple #[]) ∧ MkOwn w' g g (.slice A0 l0.length c0) (.slice A1 l1.length c1) (.string a2) (.string a3) (.string a4) m pc (.int .i64 op) (.int .i64 ia) (.int .i64 ib) (.int .i64 ic) (.int .i64 id) (.string s5) (.string s6) (.string s7) (.slice A8 ags.length c8) v' (l ++ ins) ∧ ins.length ≤ 3 ∧ Asked m pc ⟨op,ia,ib,ic,id,s5,s6,s7,ags⟩ ins s ∧ Below g W w' ∧ Kp W w' g v v') →
   Calls Try.prog 46 #[.pointer (some ⟨g,0,none⟩)] W fun e w' => ∃ v' ins,e = .returned (.tuple #[]) ∧ MkOwn w' g g (.slice A0 l0.length c0) (.slice A1 l1.length c1) (.string a2) (.string a3) (.string a4) m pc (.int .i64 op) (.int .i64 ia) (.int .i64 ib) (.int .i64 ic) (.int .i64 id) (.string s5) (.string s6) (.string s7) (.slice A8 ags.length c8) v' (l ++ ins) ∧ ins.length ≤ 3 ∧ Asked m pc ⟨op,ia,ib,ic,id,s5,s6,s7,ags⟩ ins (setsV l0 ⟨op,ia,ib,ic,id,s5,s6,s7,ags⟩) ∧ Below g W w':=by
  rintro s rfl h
  refine h.mono ?_
  rintro e w' ⟨v',ins,h1,h2,h3,h4,h5,_⟩
  exact ⟨v',ins,h1,h2,h3,h4,h5⟩
 refine weak _ rfl ?_
 have hfd : find_Field.f l0 l1 a2 a3 a4 s5 s6 = some ((fldF l0 (supS l0 s5) s6).1,(fldF l0 (supS l0 s5) s6).2.1,(fldF l0 (supS l0 s5) s6).2.2):=by unfold find_Field.f;rw [hsup];rfl
 have hst : find_Static.f l0 l1 a2 a3 a4 s5 s6 s7 = some ((decS l0 (supS l0 s5) s6 s7).1,(decS l0 (supS l0 s5) s6 s7).2.1,(decS l0 (supS l0 s5) s6 s7).2.2.1,(decS l0 (supS l0 s5) s6 s7).2.2.2):=by unfold find_Static.f;rw [hsup];rfl
 by_cases h4 : op = 4
 ·
  subst h4
  rw [show setsV l0 ⟨4,ia,ib,ic,id,s5,s6,s7,ags⟩ = (true) from by simp [setsV]]
  exact iv_move g g (.slice A0 l0.length c0) (.slice A1 l1.length c1) (.string a2) (.string a3) (.string a4) m pc ia ib ic id s5 s6 s7 A8 ags.length c8 ags v l W hm hl hg
 by_cases h25 : op = 25
 ·
  subst h25
  rw [show setsV l0 ⟨25,ia,ib,ic,id,s5,s6,s7,ags⟩ = (true) from by simp [setsV]]
  exact iv_cast g g (.slice A0 l0.length c0) (.slice A1 l1.length c1) (.string a2) (.string a3) (.string a4) m pc ia ib ic id s5 s6 s7 A8 ags.length c8 ags v l W hm hl hg
 by_cases h9 : op = 9
 ·
  subst h9
  rw [show setsV l0 ⟨9,ia,ib,ic,id,s5,s6,s7,ags⟩ = (true) from by simp [setsV]]
  exact iv_new g g (.slice A0 l0.length c0) (.slice A1 l1.length c1) (.string a2) (.string a3) (.string a4) m pc ia ib ic id s5 s6 s7 A8 ags.length c8 ags v l W hm hl hg
 by_cases h10 : op = 10
 ·
  subst h10
  rw [show setsV l0 ⟨10,ia,ib,ic,id,s5,s6,s7,ags⟩ = (true) from by simp [setsV]]
  exact iv_newints g g (.slice A0 l0.length c0) (.slice A1 l1.length c1) (.string a2) (.string a3) (.string a4) m pc ia ib ic id s5 s6 s7 A8 ags.length c8 ags v l W hm hl hg
 by_cases h13 : op = 13
 ·
  subst h13
  rw [show setsV l0 ⟨13,ia,ib,ic,id,s5,s6,s7,ags⟩ = (true) from by simp [setsV]]
  exact iv_load g g (.slice A0 l0.length c0) (.slice A1 l1.length c1) (.string a2) (.string a3) (.string a4) m pc ia ib ic id s5 s6 s7 A8 ags.length c8 ags v l W hm hl hg
 by_cases h14 : op = 14
 ·
  subst h14
  rw [show setsV l0 ⟨14,ia,ib,ic,id,s5,s6,s7,ags⟩ = (true) from by simp [setsV]]
  exact iv_store g g (.slice A0 l0.length c0) (.slice A1 l1.length c1) (.string a2) (.string a3) (.string a4) m pc ia ib ic id s5 s6 s7 A8 ags.length c8 ags v l W hm hl hg
 by_cases h22 : op = 22
 ·
  subst h22
  rw [show setsV l0 ⟨22,ia,ib,ic,id,s5,s6,s7,ags⟩ = (false) from by simp [setsV]]
  exact iv_return g g (.slice A0 l0.length c0) (.slice A1 l1.length c1) (.string a2) (.string a3) (.string a4) m pc ia ib ic id s5 s6 s7 A8 ags.length c8 ags v l W hm hl hg
 by_cases h28 : op = 28
 ·
  subst h28
  rw [show setsV l0 ⟨28,ia,ib,ic,id,s5,s6,s7,ags⟩ = (true) from by simp [setsV]]
  exact iv_make g g (.slice A0 l0.length c0) (.slice A1 l1.length c1) (.string a2) (.string a3) (.string a4) m pc ia ib ic id s5 s6 s7 A8 ags.length c8 ags v l W hm hl hg
 by_cases h29 : op = 29
 ·
  subst h29
  rw [show setsV l0 ⟨29,ia,ib,ic,id,s5,s6,s7,ags⟩ = (false) from by simp [setsV]]
  exact iv_ask g g (.slice A0 l0.length c0) (.slice A1 l1.length c1) (.string a2) (.string a3) (.string a4) m pc ia ib ic id s5 s6 s7 A8 ags.length c8 ags v l W hm hl hg
 by_cases h32 : op = 32
 ·
  subst h32
  rw [show setsV l0 ⟨32,ia,ib,ic,id,s5,s6,s7,ags⟩ = (false) from by simp [setsV]]
  exact iv_init g g (.slice A0 l0.length c0) (.slice A1 l1.length c1) (.string a2) (.string a3) (.string a4) m pc ia ib ic id s5 s6 s7 A8 ags.length c8 ags v l W hm hl hg
 by_cases h11 : op = 11
 ·
  subst h11
  rw [show setsV l0 ⟨11,ia,ib,ic,id,s5,s6,s7,ags⟩ = (true) from by simp [setsV]]
  exact iv_newrefs g g (.slice A0 l0.length c0) (.slice A1 l1.length c1) (.string a2) (.string a3) (.string a4) m pc ia ib ic id s5 s6 s7 A8 ags.length c8 ags v l W z3 hm hl hg
 by_cases h15 : op = 15
 ·
  subst h15
  rw [show setsV l0 ⟨15,ia,ib,ic,id,s5,s6,s7,ags⟩ = ((fldF l0 (supS l0 s5) s6).2.2) from by simp [setsV]]
  exact iv_field15 g g A0 c0 l0 A1 c1 l1 a2 a3 a4 m pc ia ib ic id s5 s6 s7 A8 ags.length c8 ags v l W hm hl hg hr0 hc0 hr1 hc1 _ _ _ hfd
 by_cases h16 : op = 16
 ·
  subst h16
  rw [show setsV l0 ⟨16,ia,ib,ic,id,s5,s6,s7,ags⟩ = (false) from by simp [setsV]]
  exact iv_field16 g g A0 c0 l0 A1 c1 l1 a2 a3 a4 m pc ia ib ic id s5 s6 s7 A8 ags.length c8 ags v l W hm hl hg hr0 hc0 hr1 hc1 _ _ _ hfd
 by_cases h17 : op = 17
 ·
  subst h17
  rw [show setsV l0 ⟨17,ia,ib,ic,id,s5,s6,s7,ags⟩ = ((fldF l0 (supS l0 s5) s6).2.2) from by simp [setsV]]
  exact iv_field17 g g A0 c0 l0 A1 c1 l1 a2 a3 a4 m pc ia ib ic id s5 s6 s7 A8 ags.length c8 ags v l W hm hl hg hr0 hc0 hr1 hc1 _ _ _ hfd
 by_cases h18 : op = 18
 ·
  subst h18
  rw [show setsV l0 ⟨18,ia,ib,ic,id,s5,s6,s7,ags⟩ = (false) from by simp [setsV]]
  exact iv_field18 g g A0 c0 l0 A1 c1 l1 a2 a3 a4 m pc ia ib ic id s5 s6 s7 A8 ags.length c8 ags v l W hm hl hg hr0 hc0 hr1 hc1 _ _ _ hfd
 by_cases h19 : op = 19
 ·
  subst h19
  rw [show setsV l0 ⟨19,ia,ib,ic,id,s5,s6,s7,ags⟩ = ((decS l0 (supS l0 s5) s6 s7).2.2.2 && ansB s7) from by simp [setsV]]
  exact iv_call19 g g A0 c0 l0 A1 c1 l1 a2 a3 a4 m pc ia ib ic id s5 s6 s7 A8 c8 ags v l W hm hl hg hr0 hc0 hr1 hc1 hM z4 hC8 hc8 z5 _ _ _ _ hst
 by_cases h20 : op = 20
 ·
  subst h20
  rw [show setsV l0 ⟨20,ia,ib,ic,id,s5,s6,s7,ags⟩ = ((!ags.isEmpty) && ansB s7) from by simp [setsV]]
  exact iv_call20 g g A0 c0 l0 A1 c1 l1 a2 a3 a4 m pc ia ib ic id s5 s6 s7 A8 c8 ags v l W hm hl hg hr0 hc0 hr1 hc1 hM z4 hC8 hc8 z5
 by_cases h21 : op = 21
 ·
  subst h21
  rw [show setsV l0 ⟨21,ia,ib,ic,id,s5,s6,s7,ags⟩ = ((!ags.isEmpty) && ansB s7) from by simp [setsV]]
  exact iv_call21 g g A0 c0 l0 A1 c1 l1 a2 a3 a4 m pc ia ib ic id s5 s6 s7 A8 c8 ags v l W hm hl hg hr0 hc0 hr1 hc1 hM z4 hC8 hc8 z5
 rw [show setsV l0 ⟨op,ia,ib,ic,id,s5,s6,s7,ags⟩ = false from by simp only [setsV];rw [if_neg (by omega),if_neg (by omega),if_neg (by omega),if_neg (by omega)]]
 exact iv_none g g (.slice A0 l0.length c0) (.slice A1 l1.length c1) (.string a2) (.string a3) (.string a4) m pc op ia ib ic id s5 s6 s7 A8 ags.length c8 ags v l W (fun n hn => by simp only [List.mem_cons,List.not_mem_nil,or_false] at hn;omega) hm hl hg
structure Made (m : S25) (code : List S74) (l0 : List S33) (i : Nat) (L : List CV) : Prop where
 ex : ∃ ins : Nat → List CV,L = (List.range i).flatMap ins ∧ ∀ j (h : j < code.length),j < i → (ins j).length ≤ 3 ∧ Asked m (j : Int) code[j] (ins j) (setsV l0 code[j])
theorem Made.zero (m : S25) (code : List S74) (l0 : List S33) : Made m code l0 0 [] := ⟨⟨fun _ => [], rfl, fun j _ h => absurd h (Nat.not_lt_zero j)⟩⟩
theorem Made.next {m : S25} {code : List S74} {l0 : List S33} {i : Nat} {L ins : List CV} (h : Made m code l0 i L) (hi : i < code.length) (hl : ins.length ≤ 3) (ha : Asked m (i : Int) code[i] ins (setsV l0 code[i])) : Made m code l0 (i + 1) (L ++ ins) := by
 obtain ⟨f,rfl,hf⟩:=h.ex
 refine ⟨⟨fun j => if j = i then ins else f j,?_,fun j hj hji => ?_⟩⟩
 ·
  rw [List.range_succ,List.flatMap_append]
  congr 1
  ·
   rw [List.flatMap_def,List.flatMap_def]
   congr 1
   refine List.map_congr_left fun j hj => ?_
   rw [if_neg (by have:=List.mem_range.1 hj;omega)]
  ·
   simp
 ·
  by_cases e : j = i
  ·
   subst e
   dsimp only
   rw [if_pos rfl]
   exact ⟨hl,ha⟩
  ·
   dsimp only
   rw [if_neg e]
   exact hf j hj (by omega)
theorem flat_len (f : Nat → List CV) : ∀ i, (∀ j, j < i → (f j).length ≤ 3) → ((List.range i).flatMap f).length ≤ 3 * i
 | 0,_ => Nat.le_refl 0
 | i + 1,h => by
  have h1:=flat_len f i (fun j hj => h j (by omega))
  have h2:=h i (by omega)
  rw [List.range_succ,List.flatMap_append,List.length_append]
  simp only [List.flatMap_cons,List.flatMap_nil,List.append_nil]
  omega
theorem Made.len {m : S25} {code : List S74} {l0 : List S33} {i : Nat} {L : List CV} (h : Made m code l0 i L) (hi : i ≤ code.length) : L.length ≤ 3 * i := by
 obtain ⟨f,rfl,hf⟩:=h.ex
 exact flat_len f i (fun j hj => (hf j (by omega) hj).1)
theorem MkOwn.next {w : World} {base g : Nat} {a0 a1 a2 a3 a4 : Value} {m : S25} {pc : Int} {b0 b1 b2 b3 b4 b5 b6 b7 b8 : Value} {v : Value} {l : List CV} (h : MkOwn w base g a0 a1 a2 a3 a4 m pc b0 b1 b2 b3 b4 b5 b6 b7 b8 v l) (pc' : Int) (u0 u1 u2 u3 u4 u5 u6 u7 u8 : Value) : MkOwn ((((((((((w.setCell ⟨g, 8, none⟩ (.int .i64 pc')).setCell ⟨g, 9, none⟩ (u0)).setCell ⟨g, 10, none⟩ (u1)).setCell ⟨g, 11, none⟩ (u2)).setCell ⟨g, 12, none⟩ (u3)).setCell ⟨g, 13, none⟩ (u4)).setCell ⟨g, 14, none⟩ (u5)).setCell ⟨g, 15, none⟩ (u6)).setCell ⟨g, 16, none⟩ (u7)).setCell ⟨g, 17, none⟩ (u8)) base g a0 a1 a2 a3 a4 m pc' u0 u1 u2 u3 u4 u5 u6 u7 u8 v l := ⟨(blk_put (cs := #[a0, a1, a2, a3, a4, .string m.f0, .string m.f1, .string m.f2, .int .i64 pc', u0, u1, u2, u3, u4, u5, u6, u7, b8, v]) (blk_put (cs := #[a0, a1, a2, a3, a4, .string m.f0, .string m.f1, .string m.f2, .int .i64 pc', u0, u1, u2, u3, u4, u5, u6, b7, b8, v]) (blk_put (cs := #[a0, a1, a2, a3, a4, .string m.f0, .string m.f1, .string m.f2, .int .i64 pc', u0, u1, u2, u3, u4, u5, b6, b7, b8, v]) (blk_put (cs := #[a0, a1, a2, a3, a4, .string m.f0, .string m.f1, .string m.f2, .int .i64 pc', u0, u1, u2, u3, u4, b5, b6, b7, b8, v]) (blk_put (cs := #[a0, a1, a2, a3, a4, .string m.f0, .string m.f1, .string m.f2, .int .i64 pc', u0, u1, u2, u3, b4, b5, b6, b7, b8, v]) (blk_put (cs := #[a0, a1, a2, a3, a4, .string m.f0, .string m.f1, .string m.f2, .int .i64 pc', u0, u1, u2, b3, b4, b5, b6, b7, b8, v]) (blk_put (cs := #[a0, a1, a2, a3, a4, .string m.f0, .string m.f1, .string m.f2, .int .i64 pc', u0, u1, b2, b3, b4, b5, b6, b7, b8, v]) (blk_put (cs := #[a0, a1, a2, a3, a4, .string m.f0, .string m.f1, .string m.f2, .int .i64 pc', u0, b1, b2, b3, b4, b5, b6, b7, b8, v]) (blk_put (cs := #[a0, a1, a2, a3, a4, .string m.f0, .string m.f1, .string m.f2, .int .i64 pc', b0, b1, b2, b3, b4, b5, b6, b7, b8, v]) (blk_put (cs := #[a0, a1, a2, a3, a4, .string m.f0, .string m.f1, .string m.f2, .int .i64 pc, b0, b1, b2, b3, b4, b5, b6, b7, b8, v]) h.b 8 (.int .i64 pc') rfl) 9 (u0) rfl) 10 (u1) rfl) 11 (u2) rfl) 12 (u3) rfl) 13 (u4) rfl) 14 (u5) rfl) 15 (u6) rfl) 16 (u7) rfl) 17 (u8) rfl), h.hb, (Kd.R_set (Kd.R_set (Kd.R_set (Kd.R_set (Kd.R_set (Kd.R_set (Kd.R_set (Kd.R_set (Kd.R_set (Kd.R_set h.r h.b (by decide) 8 (.int .i64 pc')) (blk_put (cs := #[a0, a1, a2, a3, a4, .string m.f0, .string m.f1, .string m.f2, .int .i64 pc, b0, b1, b2, b3, b4, b5, b6, b7, b8, v]) h.b 8 (.int .i64 pc') rfl) (by decide) 9 (u0)) (blk_put (cs := #[a0, a1, a2, a3, a4, .string m.f0, .string m.f1, .string m.f2, .int .i64 pc', b0, b1, b2, b3, b4, b5, b6, b7, b8, v]) (blk_put (cs := #[a0, a1, a2, a3, a4, .string m.f0, .string m.f1, .string m.f2, .int .i64 pc, b0, b1, b2, b3, b4, b5, b6, b7, b8, v]) h.b 8 (.int .i64 pc') rfl) 9 (u0) rfl) (by decide) 10 (u1)) (blk_put (cs := #[a0, a1, a2, a3, a4, .string m.f0, .string m.f1, .string m.f2, .int .i64 pc', u0, b1, b2, b3, b4, b5, b6, b7, b8, v]) (blk_put (cs := #[a0, a1, a2, a3, a4, .string m.f0, .string m.f1, .string m.f2, .int .i64 pc', b0, b1, b2, b3, b4, b5, b6, b7, b8, v]) (blk_put (cs := #[a0, a1, a2, a3, a4, .string m.f0, .string m.f1, .string m.f2, .int .i64 pc, b0, b1, b2, b3, b4, b5, b6, b7, b8, v]) h.b 8 (.int .i64 pc') rfl) 9 (u0) rfl) 10 (u1) rfl) (by decide) 11 (u2)) (blk_put (cs := #[a0, a1, a2, a3, a4, .string m.f0, .string m.f1, .string m.f2, .int .i64 pc', u0, u1, b2, b3, b4, b5, b6, b7, b8, v]) (blk_put (cs := #[a0, a1, a2, a3, a4, .string m.f0, .string m.f1, .string m.f2, .int .i64 pc', u0, b1, b2, b3, b4, b5, b6, b7, b8, v]) (blk_put (cs := #[a0, a1, a2, a3, a4, .string m.f0, .string m.f1, .string m.f2, .int .i64 pc', b0, b1, b2, b3, b4, b5, b6, b7, b8, v]) (blk_put (cs := #[a0, a1, a2, a3, a4, .string m.f0, .string m.f1, .string m.f2, .int .i64 pc, b0, b1, b2, b3, b4, b5, b6, b7, b8, v]) h.b 8 (.int .i64 pc') rfl) 9 (u0) rfl) 10 (u1) rfl) 11 (u2) rfl) (by decide) 12 (u3)) (blk_put (cs := #[a0, a1, a2, a3, a4, .string m.f0, .string m.f1, .string m.f2, .int .i64 pc', u0, u1, u2, b3, b4, b5, b6, b7, b8, v]) (blk_put (cs := #[a0, a1, a2, a3, a4, .string m.f0, .string m.f1, .string m.f2, .int .i64 pc', u0, u1, b2, b3, b4, b5, b6, b7, b8, v]) (blk_put (cs := #[a0, a1, a2, a3, a4, .string m.f0, .string m.f1, .string m.f2, .int .i64 pc', u0, b1, b2, b3, b4, b5, b6, b7, b8, v]) (blk_put (cs := #[a0, a1, a2, a3, a4, .string m.f0, .string m.f1, .string m.f2, .int .i64 pc', b0, b1, b2, b3, b4, b5, b6, b7, b8, v]) (blk_put (cs := #[a0, a1, a2, a3, a4, .string m.f0, .string m.f1, .string m.f2, .int .i64 pc, b0, b1, b2, b3, b4, b5, b6, b7, b8, v]) h.b 8 (.int .i64 pc') rfl) 9 (u0) rfl) 10 (u1) rfl) 11 (u2) rfl) 12 (u3) rfl) (by decide) 13 (u4)) (blk_put (cs := #[a0, a1, a2, a3, a4, .string m.f0, .string m.f1, .string m.f2, .int .i64 pc', u0, u1, u2, u3, b4, b5, b6, b7, b8, v]) (blk_put (cs := #[a0, a1, a2, a3, a4, .string m.f0, .string m.f1, .string m.f2, .int .i64 pc', u0, u1, u2, b3, b4, b5, b6, b7, b8, v]) (blk_put (cs := #[a0, a1, a2, a3, a4, .string m.f0, .string m.f1, .string m.f2, .int .i64 pc', u0, u1, b2, b3, b4, b5, b6, b7, b8, v]) (blk_put (cs := #[a0, a1, a2, a3, a4, .string m.f0, .string m.f1, .string m.f2, .int .i64 pc', u0, b1, b2, b3, b4, b5, b6, b7, b8, v]) (blk_put (cs := #[a0, a1, a2, a3, a4, .string m.f0, .string m.f1, .string m.f2, .int .i64 pc', b0, b1, b2, b3, b4, b5, b6, b7, b8, v]) (blk_put (cs := #[a0, a1, a2, a3, a4, .string m.f0, .string m.f1, .string m.f2, .int .i64 pc, b0, b1, b2, b3, b4, b5, b6, b7, b8, v]) h.b 8 (.int .i64 pc') rfl) 9 (u0) rfl) 10 (u1) rfl) 11 (u2) rfl) 12 (u3) rfl) 13 (u4) rfl) (by decide) 14 (u5)) (blk_put (cs := #[a0, a1, a2, a3, a4, .string m.f0, .string m.f1, .string m.f2, .int .i64 pc', u0, u1, u2, u3, u4, b5, b6, b7, b8, v]) (blk_put (cs := #[a0, a1, a2, a3, a4, .string m.f0, .string m.f1, .string m.f2, .int .i64 pc', u0, u1, u2, u3, b4, b5, b6, b7, b8, v]) (blk_put (cs := #[a0, a1, a2, a3, a4, .string m.f0, .string m.f1, .string m.f2, .int .i64 pc', u0, u1, u2, b3, b4, b5, b6, b7, b8, v]) (blk_put (cs := #[a0, a1, a2, a3, a4, .string m.f0, .string m.f1, .string m.f2, .int .i64 pc', u0, u1, b2, b3, b4, b5, b6, b7, b8, v]) (blk_put (cs := #[a0, a1, a2, a3, a4, .string m.f0, .string m.f1, .string m.f2, .int .i64 pc', u0, b1, b2, b3, b4, b5, b6, b7, b8, v]) (blk_put (cs := #[a0, a1, a2, a3, a4, .string m.f0, .string m.f1, .string m.f2, .int .i64 pc', b0, b1, b2, b3, b4, b5, b6, b7, b8, v]) (blk_put (cs := #[a0, a1, a2, a3, a4, .string m.f0, .string m.f1, .string m.f2, .int .i64 pc, b0, b1, b2, b3, b4, b5, b6, b7, b8, v]) h.b 8 (.int .i64 pc') rfl) 9 (u0) rfl) 10 (u1) rfl) 11 (u2) rfl) 12 (u3) rfl) 13 (u4) rfl) 14 (u5) rfl) (by decide) 15 (u6)) (blk_put (cs := #[a0, a1, a2, a3, a4, .string m.f0, .string m.f1, .string m.f2, .int .i64 pc', u0, u1, u2, u3, u4, u5, b6, b7, b8, v]) (blk_put (cs := #[a0, a1, a2, a3, a4, .string m.f0, .string m.f1, .string m.f2, .int .i64 pc', u0, u1, u2, u3, u4, b5, b6, b7, b8, v]) (blk_put (cs := #[a0, a1, a2, a3, a4, .string m.f0, .string m.f1, .string m.f2, .int .i64 pc', u0, u1, u2, u3, b4, b5, b6, b7, b8, v]) (blk_put (cs := #[a0, a1, a2, a3, a4, .string m.f0, .string m.f1, .string m.f2, .int .i64 pc', u0, u1, u2, b3, b4, b5, b6, b7, b8, v]) (blk_put (cs := #[a0, a1, a2, a3, a4, .string m.f0, .string m.f1, .string m.f2, .int .i64 pc', u0, u1, b2, b3, b4, b5, b6, b7, b8, v]) (blk_put (cs := #[a0, a1, a2, a3, a4, .string m.f0, .string m.f1, .string m.f2, .int .i64 pc', u0, b1, b2, b3, b4, b5, b6, b7, b8, v]) (blk_put (cs := #[a0, a1, a2, a3, a4, .string m.f0, .string m.f1, .string m.f2, .int .i64 pc', b0, b1, b2, b3, b4, b5, b6, b7, b8, v]) (blk_put (cs := #[a0, a1, a2, a3, a4, .string m.f0, .string m.f1, .string m.f2, .int .i64 pc, b0, b1, b2, b3, b4, b5, b6, b7, b8, v]) h.b 8 (.int .i64 pc') rfl) 9 (u0) rfl) 10 (u1) rfl) 11 (u2) rfl) 12 (u3) rfl) 13 (u4) rfl) 14 (u5) rfl) 15 (u6) rfl) (by decide) 16 (u7)) (blk_put (cs := #[a0, a1, a2, a3, a4, .string m.f0, .string m.f1, .string m.f2, .int .i64 pc', u0, u1, u2, u3, u4, u5, u6, b7, b8, v]) (blk_put (cs := #[a0, a1, a2, a3, a4, .string m.f0, .string m.f1, .string m.f2, .int .i64 pc', u0, u1, u2, u3, u4, u5, b6, b7, b8, v]) (blk_put (cs := #[a0, a1, a2, a3, a4, .string m.f0, .string m.f1, .string m.f2, .int .i64 pc', u0, u1, u2, u3, u4, b5, b6, b7, b8, v]) (blk_put (cs := #[a0, a1, a2, a3, a4, .string m.f0, .string m.f1, .string m.f2, .int .i64 pc', u0, u1, u2, u3, b4, b5, b6, b7, b8, v]) (blk_put (cs := #[a0, a1, a2, a3, a4, .string m.f0, .string m.f1, .string m.f2, .int .i64 pc', u0, u1, u2, b3, b4, b5, b6, b7, b8, v]) (blk_put (cs := #[a0, a1, a2, a3, a4, .string m.f0, .string m.f1, .string m.f2, .int .i64 pc', u0, u1, b2, b3, b4, b5, b6, b7, b8, v]) (blk_put (cs := #[a0, a1, a2, a3, a4, .string m.f0, .string m.f1, .string m.f2, .int .i64 pc', u0, b1, b2, b3, b4, b5, b6, b7, b8, v]) (blk_put (cs := #[a0, a1, a2, a3, a4, .string m.f0, .string m.f1, .string m.f2, .int .i64 pc', b0, b1, b2, b3, b4, b5, b6, b7, b8, v]) (blk_put (cs := #[a0, a1, a2, a3, a4, .string m.f0, .string m.f1, .string m.f2, .int .i64 pc, b0, b1, b2, b3, b4, b5, b6, b7, b8, v]) h.b 8 (.int .i64 pc') rfl) 9 (u0) rfl) 10 (u1) rfl) 11 (u2) rfl) 12 (u3) rfl) 13 (u4) rfl) 14 (u5) rfl) 15 (u6) rfl) 16 (u7) rfl) (by decide) 17 (u8))⟩
theorem gen_ofV (P : Nat → Prop) (A0 : Option Addr) (c0 : Nat) (l0 : List S33) (A1 : Option Addr) (c1 : Nat) (l1 : List ByteArray) (a2 a3 a4 b0 b1 b2 : ByteArray) (w : World) (hs : Kd.F k33 w P A0 l0.length l0) (hc : l0.length ≤ c0) (hr1 : Kd.C Kd.string w A1 l1.length l1) (hc1 : l1.length ≤ c1)
  (hM : MaxL w) (hput : ∀ i (h : i < (getM l0 b0 b1 b2).f5.length),PutsV A0 c0 l0 A1 c1 l1 a2 a3 a4 ⟨b0,b1,b2⟩ (i : Int) ((getM l0 b0 b1 b2).f5[i])) (hlen : (getM l0 b0 b1 b2).f5.length ≤ 300) :
  Calls Try.prog 29 #[.agg (pG A0 l0 c0 A1 l1 c1 a2 a3 a4),.agg #[.string b0,.string b1,.string b2]] w fun e w' => ∃ v' L,e = .returned v' ∧ Kd.R kCV 60 w' w.heap.size (fun _ => True) v' L ∧ Made ⟨b0,b1,b2⟩ (getM l0 b0 b1 b2).f5 l0 (getM l0 b0 b1 b2).f5.length L ∧ Below w.heap.size w w':=by
 have hb0:=below_alloc (below_alloc (Below.refl w.heap.size w) (Obj.cells (pG A0 l0 c0 A1 l1 c1 a2 a3 a4) 27)) (Obj.cells #[.string b0,.string b1,.string b2] 25)
 have HG:=aq (find_get P A0 c0 l0 A1 c1 l1 a2 a3 a4 b0 b1 b2 ((w.alloc (Obj.cells (pG A0 l0 c0 A1 l1 c1 a2 a3 a4) 27)).alloc (Obj.cells #[.string b0,.string b1,.string b2] 25)) (Kd.F_below hs hb0) hc (Kd.C_below hr1 hb0) hc1)
 have HB0:=aq hb0
 have hp:=blk_alloc (World.alloc_heap_new w (Obj.cells (pG A0 l0 c0 A1 l1 c1 a2 a3 a4) 27)) (Obj.cells #[.string b0,.string b1,.string b2] 25)
 have hq:=World.alloc_heap_new (w.alloc (Obj.cells (pG A0 l0 c0 A1 l1 c1 a2 a3 a4) 27)) (Obj.cells #[.string b0,.string b1,.string b2] 25)
 rw [World.size_alloc] at hq
 have HP:=aq hp
 have HQ:=aq hq
 have HPT:=aq hput
 have HLE:=aq hlen
 have HRC:=aq (Kd.F_now hs)
 have HRS:=aq hr1
 have HMX:=aq hM
 clear hs hr1 hb0 hp hq hput hlen hM
 go_enter Try.func29,Try.ntmps29
 go_wp2_with fail
 refine HG.out.mono ?_
 rintro e w1 ⟨A5,c5,rfl,hfk,hb⟩
 obtain ⟨hc5,hF⟩:=method_code hfk
 have HCD:=aq (Kd.F_now hF)
 have HC5:=aq hc5
 have HB1:=aq (below_step HB0.out hb)
 have HP1:=aq (blk_below HP.out hb)
 have HQ1:=aq (blk_below HQ.out hb)
 clear hfk hb hF hc5
 have HPm:=aq (blk_alloc HP1.out (Obj.cells (zH (getM l0 b0 b1 b2) A5 c5) 37))
 have HQm:=aq (blk_alloc HQ1.out (Obj.cells (zH (getM l0 b0 b1 b2) A5 c5) 37))
 have hd:=blk_alloc (World.alloc_heap_new w1 (Obj.cells (zH (getM l0 b0 b1 b2) A5 c5) 37)) (Obj.cells #[.slice A0 l0.length c0,.slice A1 l1.length c1,.string a2,.string a3,.string a4,.string b0,.string b1,.string b2,.int .i64 0,.int .i64 0,.int .i64 0,.int .i64 0,.int .i64 0,.int .i64 0,.string ⟨#[]⟩,.string ⟨#[]⟩,.string ⟨#[]⟩,.slice none 0 0,.slice none 0 0] 85)
 have hk:=World.alloc_heap_new (w1.alloc (Obj.cells (zH (getM l0 b0 b1 b2) A5 c5) 37)) (Obj.cells #[.slice A0 l0.length c0,.slice A1 l1.length c1,.string a2,.string a3,.string a4,.string b0,.string b1,.string b2,.int .i64 0,.int .i64 0,.int .i64 0,.int .i64 0,.int .i64 0,.int .i64 0,.string ⟨#[]⟩,.string ⟨#[]⟩,.string ⟨#[]⟩,.slice none 0 0,.slice none 0 0] 85)
 rw [World.size_alloc] at hk
 obtain ⟨n,hn⟩ : ∃ n,n = (getM l0 b0 b1 b2).f5.length:=⟨_,rfl⟩
 have HMK : Aside0 (MkOwn ((w1.alloc (Obj.cells (zH (getM l0 b0 b1 b2) A5 c5) 37)).alloc (Obj.cells #[.slice A0 l0.length c0,.slice A1 l1.length c1,.string a2,.string a3,.string a4,.string b0,.string b1,.string b2,.int .i64 0,.int .i64 0,.int .i64 0,.int .i64 0,.int .i64 0,.int .i64 0,.string ⟨#[]⟩,.string ⟨#[]⟩,.string ⟨#[]⟩,.slice none 0 0,.slice none 0 0] 85)) (w1.heap.size + 1) (w1.heap.size + 1) (.slice A0 l0.length c0) (.slice A1 l1.length c1) (.string a2) (.string a3) (.string a4) ⟨b0,b1,b2⟩ 0 (.int .i64 0) (.int .i64 0) (.int .i64 0) (.int .i64 0) (.int .i64 0) (.string ⟨#[]⟩) (.string ⟨#[]⟩) (.string ⟨#[]⟩) (.slice none 0 0) (.slice none 0 0) []):=⟨⟨hk,Nat.le_refl _,Kd.R_nil _ _ _ _ _⟩⟩
 have HBC:=aq (below_alloc (below_alloc (Below.refl w1.heap.size w1) (Obj.cells (zH (getM l0 b0 b1 b2) A5 c5) 37)) (Obj.cells #[.slice A0 l0.length c0,.slice A1 l1.length c1,.string a2,.string a3,.string a4,.string b0,.string b1,.string b2,.int .i64 0,.int .i64 0,.int .i64 0,.int .i64 0,.int .i64 0,.int .i64 0,.string ⟨#[]⟩,.string ⟨#[]⟩,.string ⟨#[]⟩,.slice none 0 0,.slice none 0 0] 85))
 have d5 : ((w1.alloc (Obj.cells (zH (getM l0 b0 b1 b2) A5 c5) 37)).alloc (Obj.cells #[.slice A0 l0.length c0,.slice A1 l1.length c1,.string a2,.string a3,.string a4,.string b0,.string b1,.string b2,.int .i64 0,.int .i64 0,.int .i64 0,.int .i64 0,.int .i64 0,.int .i64 0,.string ⟨#[]⟩,.string ⟨#[]⟩,.string ⟨#[]⟩,.slice none 0 0,.slice none 0 0] 85)).cell? ⟨w1.heap.size,5,none⟩ = some (.slice A5 (getM l0 b0 b1 b2).f5.length c5):=blk_cell hd 5
 have HSZ : Aside0 (((w1.alloc (Obj.cells (zH (getM l0 b0 b1 b2) A5 c5) 37)).alloc (Obj.cells #[.slice A0 l0.length c0,.slice A1 l1.length c1,.string a2,.string a3,.string a4,.string b0,.string b1,.string b2,.int .i64 0,.int .i64 0,.int .i64 0,.int .i64 0,.int .i64 0,.int .i64 0,.string ⟨#[]⟩,.string ⟨#[]⟩,.string ⟨#[]⟩,.slice none 0 0,.slice none 0 0] 85)).heap.size = w1.heap.size + 2):=⟨by rw [World.size_alloc,World.size_alloc]⟩
 clear hk hd
 obtain ⟨p0,p1,p2,p3,p4⟩:=cells5 HPm.out
 obtain ⟨q0,q1,q2⟩:=cells3 HQm.out
 go_wp2_with fail
 clear p0 p1 p2 p3 p4 q0 q1 q2 d5
 generalize (w1.alloc (Obj.cells (zH (getM l0 b0 b1 b2) A5 c5) 37)).alloc (Obj.cells #[.slice A0 l0.length c0,.slice A1 l1.length c1,.string a2,.string a3,.string a4,.string b0,.string b1,.string b2,.int .i64 0,.int .i64 0,.int .i64 0,.int .i64 0,.int .i64 0,.int .i64 0,.string ⟨#[]⟩,.string ⟨#[]⟩,.string ⟨#[]⟩,.slice none 0 0,.slice none 0 0] 85) = W2 at HMK HBC HSZ ⊢
 obtain ⟨G,hG⟩ : ∃ G,G = w1.heap.size + 1:=⟨_,rfl⟩
 rw [← hG] at HMK ⊢
 have HG1 : Aside0 (w1.heap.size ≤ G ∧ W2.heap.size = G + 1):=⟨by have:=HSZ.out;omega⟩
 rw [← hn]
 have HNN:=aq hn
 clear hG HSZ hn
 go_loopg [21] n (fun kq v21 wr => ∃ (i : Nat) (pcv : Int) (t0 t1 t2 t3 t4 t5 t6 t7 t8 v : Value) (L : List CV),v21 = .int .i64 (i : Int) ∧ i + kq = n ∧ Aside0 (MkOwn wr G G (.slice A0 l0.length c0) (.slice A1 l1.length c1) (.string a2) (.string a3) (.string a4) ⟨b0,b1,b2⟩ pcv t0 t1 t2 t3 t4 t5 t6 t7 t8 v L) ∧ Aside0 (Below G W2 wr) ∧ Aside0 (Made ⟨b0,b1,b2⟩ (getM l0 b0 b1 b2).f5 l0 i L))
 case atStart => exact ⟨0,0,.int .i64 0,.int .i64 0,.int .i64 0,.int .i64 0,.int .i64 0,.string ⟨#[]⟩,.string ⟨#[]⟩,.string ⟨#[]⟩,.slice none 0 0,.slice none 0 0,[],rfl,by omega,HMK,⟨Below.refl _ _⟩,⟨Made.zero _ _ _⟩⟩
 case round =>
  obtain ⟨i,pcv,t0,t1,t2,t3,t4,t5,t6,t7,t8,v,L,rfl,hi,HM,HBL,HMD⟩:=hrel
  have HBR : Aside0 (Below w1.heap.size w1 wr):=⟨HBC.out.trans (HBL.out.mono HG1.out.1)⟩
  by_cases hlt : i < n
  ·
   have hltX : i < (getM l0 b0 b1 b2).f5.length:=by rw [← HNN.out];exact hlt
   obtain ⟨ad,A8,c8,hA,h0,h1,h2,h3,h4,h5,h6,h7,h8,hl8,hC8⟩:=at_T74 HCD.out (i : Int) (by omega) (Int.ofNat_lt.2 hltX)
   have hx : rd_T74 (getM l0 b0 b1 b2).f5 (i : Int) = (getM l0 b0 b1 b2).f5[i]:=by
    unfold rd_T74
    rw [Int.toNat_natCast,List.getD_eq_getElem?_getD,List.getElem?_eq_getElem hltX]
    rfl
   have HPI:=aq (HPT.out i hltX)
   rw [hx,Int.toNat_natCast] at h0 h1 h2 h3 h4 h5 h6 h7 h8
   rw [hx] at hl8 hC8
   obtain ⟨y,hy⟩ : ∃ y,(getM l0 b0 b1 b2).f5[i] = y:=⟨_,rfl⟩
   rw [hy] at HPI h0 h1 h2 h3 h4 h5 h6 h7 h8 hl8 hC8
   subst hA
   replace h0:=sC HBR.out h0
   replace h1:=sC HBR.out h1
   replace h2:=sC HBR.out h2
   replace h3:=sC HBR.out h3
   replace h4:=sC HBR.out h4
   replace h5:=sC HBR.out h5
   replace h6:=sC HBR.out h6
   replace h7:=sC HBR.out h7
   replace h8:=sC HBR.out h8
   obtain ⟨s8,s9,s10,s11,s12,s13,s14,s15,s16,s17⟩ : wr.cell? ⟨G,8,none⟩ = some (.int .i64 pcv) ∧ wr.cell? ⟨G,9,none⟩ = some (t0) ∧ wr.cell? ⟨G,10,none⟩ = some (t1) ∧ wr.cell? ⟨G,11,none⟩ = some (t2) ∧ wr.cell? ⟨G,12,none⟩ = some (t3) ∧ wr.cell? ⟨G,13,none⟩ = some (t4) ∧ wr.cell? ⟨G,14,none⟩ = some (t5) ∧ wr.cell? ⟨G,15,none⟩ = some (t6) ∧ wr.cell? ⟨G,16,none⟩ = some (t7) ∧ wr.cell? ⟨G,17,none⟩ = some (t8):=⟨blk_cell HM.out.b 8,blk_cell HM.out.b 9,blk_cell HM.out.b 10,blk_cell HM.out.b 11,blk_cell HM.out.b 12,blk_cell HM.out.b 13,blk_cell HM.out.b 14,blk_cell HM.out.b 15,blk_cell HM.out.b 16,blk_cell HM.out.b 17⟩
   have hfg:=blk_frozen HM.out.b
   have HN:=aq (HM.out.next (i : Int) (.int .i64 y.f0) (.int .i64 y.f1) (.int .i64 y.f2) (.int .i64 y.f3) (.int .i64 y.f4) (.string y.f5) (.string y.f6) (.string y.f7) (.slice A8 y.f8.length c8))
   have HBS:=aq (show Below w1.heap.size w1 ((((((((((wr.setCell ⟨G,8,none⟩ (.int .i64 (i : Int))).setCell ⟨G,9,none⟩ (.int .i64 y.f0)).setCell ⟨G,10,none⟩ (.int .i64 y.f1)).setCell ⟨G,11,none⟩ (.int .i64 y.f2)).setCell ⟨G,12,none⟩ (.int .i64 y.f3)).setCell ⟨G,13,none⟩ (.int .i64 y.f4)).setCell ⟨G,14,none⟩ (.string y.f5)).setCell ⟨G,15,none⟩ (.string y.f6)).setCell ⟨G,16,none⟩ (.string y.f7)).setCell ⟨G,17,none⟩ (.slice A8 y.f8.length c8)) from ((((((((((HBR.out.setCell HG1.out.1 _).setCell HG1.out.1 _).setCell HG1.out.1 _).setCell HG1.out.1 _).setCell HG1.out.1 _).setCell HG1.out.1 _).setCell HG1.out.1 _).setCell HG1.out.1 _).setCell HG1.out.1 _).setCell HG1.out.1 _))
   have HBT:=aq (show Below G W2 ((((((((((wr.setCell ⟨G,8,none⟩ (.int .i64 (i : Int))).setCell ⟨G,9,none⟩ (.int .i64 y.f0)).setCell ⟨G,10,none⟩ (.int .i64 y.f1)).setCell ⟨G,11,none⟩ (.int .i64 y.f2)).setCell ⟨G,12,none⟩ (.int .i64 y.f3)).setCell ⟨G,13,none⟩ (.int .i64 y.f4)).setCell ⟨G,14,none⟩ (.string y.f5)).setCell ⟨G,15,none⟩ (.string y.f6)).setCell ⟨G,16,none⟩ (.string y.f7)).setCell ⟨G,17,none⟩ (.slice A8 y.f8.length c8)) from ((((((((((HBL.out.setCell (Nat.le_refl _) _).setCell (Nat.le_refl _) _).setCell (Nat.le_refl _) _).setCell (Nat.le_refl _) _).setCell (Nat.le_refl _) _).setCell (Nat.le_refl _) _).setCell (Nat.le_refl _) _).setCell (Nat.le_refl _) _).setCell (Nat.le_refl _) _).setCell (Nat.le_refl _) _))
   have HL8:=aq hl8
   have HC8:=aq hC8
   have HLI : Aside0 (L.length + 2 ≤ 1048576):=⟨by have h1:=HMD.out.len (Nat.le_of_lt hltX);have h2:=HLE.out;omega⟩
   have HNX:=aq (fun (ins : List CV) (hl : ins.length ≤ 3) (ha : Asked ⟨b0,b1,b2⟩ (i : Int) (getM l0 b0 b1 b2).f5[i] ins (setsV l0 (getM l0 b0 b1 b2).f5[i])) => HMD.out.next hltX hl ha)
   rw [hy] at HNX
   have hd : decide ((i : Int) < (n : Int)) = true:=decide_eq_true (by omega)
   have hi0 : (0 : Int) ≤ (i : Int):=by omega
   have hi1 : (i : Int) < (n : Int):=by omega
   have HLT:=aq hlt
   clear hx hy hl8 hC8 hltX
   go_wp2_with fail
   refine (HPI.out G A8 c8 v L _ HN.out (Kd.C_below HC8.out HBS.out) HL8.out HLI.out (Nat.le_trans (by have:=HG1.out.2;omega) HBT.out.size) (Kd.C_below HRC.out (below_step HB1.out HBS.out)) (Kd.C_below HRS.out (below_step HB1.out HBS.out)) (max_below HMX.out (below_step HB1.out HBS.out))).mono ?_
   rintro e w3 ⟨v3,ins,rfl,hm3,hln,hask,hb3⟩
   have HMN:=aq (HNX.out ins hln hask)
   have HM3:=aq hm3
   have HB3:=aq (HBT.out.trans hb3)
   clear hm3 hb3 hln hask h0 h1 h2 h3 h4 h5 h6 h7 h8 s8 s9 s10 s11 s12 s13 s14 s15 s16 s17 hfg
   go_wp2_with fail
   go_roundg (gk - 1)
   case measure => omega
   case rel => exact ⟨i + 1,(i : Int),.int .i64 y.f0,.int .i64 y.f1,.int .i64 y.f2,.int .i64 y.f3,.int .i64 y.f4,.string y.f5,.string y.f6,.string y.f7,.slice A8 y.f8.length c8,v3,L ++ ins,by rw [show wrap64 ((i : Int) + 1) = ((i + 1 : Nat) : Int) from by have hm:=HCD.out.2.1;have h1:=HLT.out;have h2:=HNN.out;unfold wrap64;omega],by omega,HM3,HB3,HMN⟩
  ·
   have hd : decide ((i : Int) < (n : Int)) = false:=decide_eq_false (by omega)
   obtain rfl : i = n:=by omega
   have s18 : wr.cell? ⟨G,18,none⟩ = some v:=blk_cell HM.out.b 18
   have HFIN:=aq (Kd.R_lower HM.out.r (Nat.le_trans HB1.out.size HG1.out.1))
   have HBF:=aq (below_step HB1.out HBR.out)
   go_wp2_with fail
   exact bodyPost_ret (results_tmp rfl _ _ _) rfl ⟨v,L,rfl,HFIN.out,by rw [← HNN.out];exact HMD.out,HBF.out⟩
end Go.Proofs.Ytfplcohjnlbfjaa.HandV
end

section
namespace Go.Proofs.Ytfplcohjnlbfjaa.Hand
open Go.RowKit Go.Proofs.YtfplcohjnlbfjaaW
open PrintWords PrintLast PrintMore
theorem tmod_nat (x : Int) (n : Nat) (hx : 0 ≤ x ∧ x < 256) (hn : ¬ (n : Int) = 0) : ∃ t : Nat, Int.tmod (wrap64 x) (n : Int) = (t : Int) ∧ (t : Int) < (n : Int) := by
 have e : wrap64 x = x:=by unfold wrap64;omega
 rw [e]
 have h0:=Int.tmod_nonneg (n : Int) hx.1
 have h1:=Int.tmod_lt_of_pos x (show (0 : Int) < (n : Int) by omega)
 exact ⟨(Int.tmod x (n : Int)).toNat,(Int.toNat_of_nonneg h0).symm,by rw [Int.toNat_of_nonneg h0];exact h1⟩
theorem law_method (A0 : Option Addr) (c0 : Nat) (l0 : List S33) (A1 : Option Addr) (c1 : Nat) (l1 : List ByteArray) (a2 a3 a4 : ByteArray) (px py : Int) (w : World) (hr0 : Kd.C k33 w A0 l0.length l0) (hx : 0 ≤ px ∧ px < 256) (hy : 0 ≤ py ∧ py < 256) :
  Calls Try.prog 27 #[.agg (pG A0 l0 c0 A1 l1 c1 a2 a3 a4),.int .u8 px,.int .u8 py] w fun e w' => ∃ b0 b1 b2,e = .returned (.agg #[.string b0,.string b1,.string b2]) ∧ Below w.heap.size w w':=by
 have hab:=below_alloc (below_alloc (Below.refl w.heap.size w) (Obj.cells (pG A0 l0 c0 A1 l1 c1 a2 a3 a4) 27)) (Obj.cells zR 25)
 have h0:=blk_alloc (World.alloc_heap_new w (Obj.cells (pG A0 l0 c0 A1 l1 c1 a2 a3 a4) 27)) (Obj.cells zR 25)
 have h1:=World.alloc_heap_new (w.alloc (Obj.cells (pG A0 l0 c0 A1 l1 c1 a2 a3 a4) 27)) (Obj.cells zR 25)
 rw [World.size_alloc] at h1
 have HR0:=aq (Kd.C_below hr0 hab)
 obtain ⟨W0,hW⟩ : ∃ W0,(w.alloc (Obj.cells (pG A0 l0 c0 A1 l1 c1 a2 a3 a4) 27)).alloc (Obj.cells zR 25) = W0:=⟨_,rfl⟩
 rw [hW] at hab h0 h1 HR0
 obtain ⟨n,hn⟩ : ∃ n,n = l0.length:=⟨_,rfl⟩
 have HB0:=aq hab
 have HP0:=aq h0
 have HQ0:=aq h1
 have HNN:=aq hn
 have p0 : W0.cell? ⟨w.heap.size,0,none⟩ = some (.slice A0 n c0):=by rw [hn];exact blk_cell h0 0
 have HW:=aq hW
 clear hr0 hab h0 h1 hW hn
 go_enter Try.func27,Try.ntmps27
 by_cases hnz : (n : Int) = 0
 ·
  have hq : ((n : Int) == 0) = true:=beq_iff_eq.2 hnz
  have e0 : W0.cell? ⟨w.heap.size + 1,0,none⟩ = some (.string ⟨#[]⟩):=blk_cell HQ0.out 0
  have e1 : W0.cell? ⟨w.heap.size + 1,1,none⟩ = some (.string ⟨#[]⟩):=blk_cell HQ0.out 1
  have e2 : W0.cell? ⟨w.heap.size + 1,2,none⟩ = some (.string ⟨#[]⟩):=blk_cell HQ0.out 2
  have ef:=blk_frozen HQ0.out
  clear hnz
  go_upto_region 1 with fail
  rw [HW.out]
  go_wp2_with fail
  exact bodyPost_ret (results_cell_row rfl _ _ (w.heap.size + 1) 25 #[.string ⟨#[65]⟩,.string ⟨#[109]⟩,.string ⟨#[40,41,86]⟩] (0,0) _ rfl (set3_own HQ0.out _ _ _) Try.underlying25 rfl (by kernel_rfl)) rfl ⟨_,_,_,rfl,set3_belowA HB0.out (Nat.le_succ _) _ _ _⟩
 ·
  have hq : ((n : Int) == 0) = false:=beq_eq_false_iff_ne.2 hnz
  obtain ⟨t,ht,htn⟩:=tmod_nat px n hx hnz
  have hn0 : ¬ n = 0:=by omega
  obtain ⟨ad,B4,d4,B5,d5,B6,d6,hA,h0,h1,h2,h3,h4,h5,h6,_,_,_,_,hl6,hC6⟩:=at_T33 HR0.out (t : Int) (by omega) (by rw [← HNN.out];exact htn)
  obtain ⟨c,hc⟩ : ∃ c,rd_T33 l0 (t : Int) = c:=⟨_,rfl⟩
  rw [hc,Int.toNat_natCast] at h0 h1 h2 h3 h4 h5 h6
  rw [hc] at hl6 hC6
  subst hA
  have HC6:=aq hC6
  have HL6:=aq hl6
  have HBX : Aside0 (Below w.heap.size w W0.drew):=⟨below_drew1 HB0.out⟩
  have HDX : Aside0 (Below W0.heap.size W0 W0.drew):=⟨below_drew1 (Below.refl _ _)⟩
  have HQX : Aside0 (W0.drew.heap[w.heap.size + 1]? = some (Obj.cells zR 25 (0,0))):=⟨HQ0.out⟩
  have z0 : W0.drew.cell? ⟨w.heap.size,0,none⟩ = some (.slice (some ad) n c0):=p0
  have z1 : W0.drew.cell? (ad.add (t * 7)) = some (.string c.f0):=h0
  have z2 : W0.drew.cell? ⟨(ad.add (t * 7)).block,(ad.add (t * 7)).off + 1,none⟩ = some (.string c.f1):=h1
  have z3 : W0.drew.cell? ⟨(ad.add (t * 7)).block,(ad.add (t * 7)).off + 2,none⟩ = some (.bool c.f2):=h2
  have z4 : W0.drew.cell? ⟨(ad.add (t * 7)).block,(ad.add (t * 7)).off + 3,none⟩ = some (.bool c.f3):=h3
  have z5 : W0.drew.cell? ⟨(ad.add (t * 7)).block,(ad.add (t * 7)).off + 4,none⟩ = some (.slice B4 c.f4.length d4):=h4
  have z6 : W0.drew.cell? ⟨(ad.add (t * 7)).block,(ad.add (t * 7)).off + 5,none⟩ = some (.slice B5 c.f5.length d5):=h5
  have z7 : W0.drew.cell? ⟨(ad.add (t * 7)).block,(ad.add (t * 7)).off + 6,none⟩ = some (.slice B6 c.f6.length d6):=h6
  have hi0 : (0 : Int) ≤ (t : Int):=by omega
  clear hc hl6 hC6 h0 h1 h2 h3 h4 h5 h6 hnz
  go_upto_region 1 with fail
  rw [HW.out]
  go_wp2_with fail
  refine start_ (n:=12) (S:=fun w' => w'.cell? ⟨w.heap.size,0,none⟩ = some (.slice (some ad) n c0) ∧ w'.cell? (ad.add (t * 7)) = some (.string c.f0) ∧ w'.cell? ⟨(ad.add (t * 7)).block,(ad.add (t * 7)).off + 1,none⟩ = some (.string c.f1) ∧ w'.cell? ⟨(ad.add (t * 7)).block,(ad.add (t * 7)).off + 2,none⟩ = some (.bool c.f2) ∧ w'.cell? ⟨(ad.add (t * 7)).block,(ad.add (t * 7)).off + 3,none⟩ = some (.bool c.f3) ∧ w'.cell? ⟨(ad.add (t * 7)).block,(ad.add (t * 7)).off + 4,none⟩ = some (.slice B4 c.f4.length d4) ∧ w'.cell? ⟨(ad.add (t * 7)).block,(ad.add (t * 7)).off + 5,none⟩ = some (.slice B5 c.f5.length d5) ∧ w'.cell? ⟨(ad.add (t * 7)).block,(ad.add (t * 7)).off + 6,none⟩ = some (.slice B6 c.f6.length d6)) (ds:=[11]) (Array.replicate 12 false) (by kernel_rfl) rfl rfl ⟨z0,z1,z2,z3,z4,z5,z6,z7⟩ (fun hHeld => ?_)
  generalize W0.drew = X at HBX HDX HQX z0 z1 z2 z3 z4 z5 z6 z7 hHeld ⊢
  refine sP (i:=0) (N:=some 14) ?_
  refine sP (i:=2) (N:=some 16) ?_
  refine sP (i:=3) (N:=some 17) ?_
  refine sP (i:=4) (N:=some 18) ?_
  refine sT (i:=1) (N:=some 15) hHeld ?_
  refine sT (i:=5) (N:=some 19) hHeld ?_
  refine sP (i:=6) (N:=some 20) ?_
  refine sP (i:=7) (N:=some 21) ?_
  refine sP (i:=8) (N:=some 22) ?_
  refine sT (i:=9) (N:=some 23) hHeld ?_
  refine sO (i:=10) (N:=some 7) fun K hK => ?_
  refine value_ (w1:=?_) (v:=?_) (by rfl) rfl ?_ ?_
  rotate_left 2
  ·
   go_simp
   constructor
   ·
    rfl
   ·
    rfl
  have HF7:=aq (World.alloc_heap_new X (Obj.cells #[.string ⟨#[]⟩,.string ⟨#[]⟩,.bool false,.bool false,.slice none 0 0,.slice none 0 0,.slice none 0 0] 33))
  have HD7:=aq (below_alloc (Below.refl X.heap.size X) (Obj.cells #[.string ⟨#[]⟩,.string ⟨#[]⟩,.bool false,.bool false,.slice none 0 0,.slice none 0 0,.slice none 0 0] 33))
  refine hK.out _ _ ⟨(((below_alloc (Below.refl X.heap.size X) (Obj.cells #[.string ⟨#[]⟩,.string ⟨#[]⟩,.bool false,.bool false,.slice none 0 0,.slice none 0 0,.slice none 0 0] 33)).cell (World.block_lt_of_cell? _ _ z0)).trans z0),(((below_alloc (Below.refl X.heap.size X) (Obj.cells #[.string ⟨#[]⟩,.string ⟨#[]⟩,.bool false,.bool false,.slice none 0 0,.slice none 0 0,.slice none 0 0] 33)).cell (World.block_lt_of_cell? _ _ z1)).trans z1),(((below_alloc (Below.refl X.heap.size X) (Obj.cells #[.string ⟨#[]⟩,.string ⟨#[]⟩,.bool false,.bool false,.slice none 0 0,.slice none 0 0,.slice none 0 0] 33)).cell (World.block_lt_of_cell? _ _ z2)).trans z2),(((below_alloc (Below.refl X.heap.size X) (Obj.cells #[.string ⟨#[]⟩,.string ⟨#[]⟩,.bool false,.bool false,.slice none 0 0,.slice none 0 0,.slice none 0 0] 33)).cell (World.block_lt_of_cell? _ _ z3)).trans z3),(((below_alloc (Below.refl X.heap.size X) (Obj.cells #[.string ⟨#[]⟩,.string ⟨#[]⟩,.bool false,.bool false,.slice none 0 0,.slice none 0 0,.slice none 0 0] 33)).cell (World.block_lt_of_cell? _ _ z4)).trans z4),(((below_alloc (Below.refl X.heap.size X) (Obj.cells #[.string ⟨#[]⟩,.string ⟨#[]⟩,.bool false,.bool false,.slice none 0 0,.slice none 0 0,.slice none 0 0] 33)).cell (World.block_lt_of_cell? _ _ z5)).trans z5),(((below_alloc (Below.refl X.heap.size X) (Obj.cells #[.string ⟨#[]⟩,.string ⟨#[]⟩,.bool false,.bool false,.slice none 0 0,.slice none 0 0,.slice none 0 0] 33)).cell (World.block_lt_of_cell? _ _ z6)).trans z6),(((below_alloc (Below.refl X.heap.size X) (Obj.cells #[.string ⟨#[]⟩,.string ⟨#[]⟩,.bool false,.bool false,.slice none 0 0,.slice none 0 0,.slice none 0 0] 33)).cell (World.block_lt_of_cell? _ _ z7)).trans z7)⟩ (fun hHeld => ?_)
  clear hK K
  refine sN ?_
  refine sX (i:=11) (N:=none) fun K hK => ?_
  refine step_store_blk HF7.out 33 _ _ 0 7 ([.string c.f0,.string c.f1,.bool c.f2,.bool c.f3,.slice B4 c.f4.length d4,.slice B5 c.f5.length d5,.slice B6 c.f6.length d6]) (by rfl) rfl rfl rfl rfl rfl (show 7 ≤ 7 from Nat.le_refl _) (by kernel_rfl) rfl (cs':=(zC c B4 d4 B5 d5 B6 d6)) (by kernel_rfl) ?_
  intro W7 hq hB hF hsz
  have HZ7:=aq hq
  have HB7:=aq (hB _ _ (Nat.le_refl _) HD7.out)
  clear hq hB hF hsz
  refine hK.out _ _ ?_
  clear hK K
  refine done_ (by kernel_rfl) ?_
  clear z0 z1 z2 z3 z4 z5 z6 z7 hHeld p0 ht htn hq hn0 hi0
  obtain ⟨q,hq⟩ : ∃ q,q = X.heap.size:=⟨_,rfl⟩
  have HBW : Aside0 (Below w.heap.size w W7):=⟨below_step HBX.out HB7.out⟩
  have HBQ : Aside0 (Below W0.heap.size W0 W7):=⟨below_step HDX.out HB7.out⟩
  have HQ7 : Aside0 (W7.heap[w.heap.size + 1]? = some (Obj.cells zR 25 (0,0))):=⟨blk_below HQX.out HB7.out⟩
  have HZQ : Aside0 (W7.heap[q]? = some (Obj.cells (zC c B4 d4 B5 d5 B6 d6) 33 (0,0))):=⟨by rw [hq];exact HZ7.out⟩
  rw [← hq]
  obtain ⟨n6,hn6⟩ : ∃ n6,n6 = c.f6.length:=⟨_,rfl⟩
  have HN6:=aq hn6
  have g6 : W7.cell? ⟨q,6,none⟩ = some (.slice B6 n6 d6):=by rw [hn6];exact blk_cell HZQ.out 6
  have g0 : W7.cell? ⟨q,0,none⟩ = some (.string c.f0):=blk_cell HZQ.out 0
  clear hq hn6 HZ7 HBX HDX HQX HB7 HF7 HD7 HP0 HW HQ0 HB0
  by_cases hnz : (n6 : Int) = 0
  ·
   have hq : ((n6 : Int) == 0) = true:=beq_iff_eq.2 hnz
   have e0 : W7.cell? ⟨w.heap.size + 1,0,none⟩ = some (.string ⟨#[]⟩):=blk_cell HQ7.out 0
   have e1 : W7.cell? ⟨w.heap.size + 1,1,none⟩ = some (.string ⟨#[]⟩):=blk_cell HQ7.out 1
   have e2 : W7.cell? ⟨w.heap.size + 1,2,none⟩ = some (.string ⟨#[]⟩):=blk_cell HQ7.out 2
   have ef:=blk_frozen HQ7.out
   clear hnz
   go_wp2_with fail
   exact bodyPost_ret (results_cell_row rfl _ _ (w.heap.size + 1) 25 #[.string c.f0,.string ⟨#[109]⟩,.string ⟨#[40,41,86]⟩] (0,0) _ rfl (set3_own HQ7.out _ _ _) Try.underlying25 rfl (by kernel_rfl)) rfl ⟨_,_,_,rfl,set3_belowA HBW.out (Nat.le_succ _) _ _ _⟩
  ·
   have hq : ((n6 : Int) == 0) = false:=beq_eq_false_iff_ne.2 hnz
   obtain ⟨t6,ht,htn⟩:=tmod_nat py n6 hy hnz
   have hn0 : ¬ n6 = 0:=by omega
   obtain ⟨bd,D5,e5,hA,h0,h1,h2,h3,h4,h5,_,_⟩:=at_T37 HC6.out (t6 : Int) (by omega) (by rw [← HN6.out];exact htn)
   obtain ⟨m,hmm⟩ : ∃ m,rd_T37 c.f6 (t6 : Int) = m:=⟨_,rfl⟩
   rw [hmm,Int.toNat_natCast] at h0 h1 h2 h3 h4 h5
   subst hA
   have HBX : Aside0 (Below w.heap.size w W7.drew):=⟨below_drew1 HBW.out⟩
   have HBQ6 : Aside0 (Below W0.heap.size W0 W7.drew):=⟨below_drew1 HBQ.out⟩
   have HQX : Aside0 (W7.drew.heap[w.heap.size + 1]? = some (Obj.cells zR 25 (0,0))):=⟨HQ7.out⟩
   have HDX : Aside0 (W7.drew.heap[q]? = some (Obj.cells #[.string c.f0,.string c.f1,.bool c.f2,.bool c.f3,.slice B4 c.f4.length d4,.slice B5 c.f5.length d5,.slice (some bd) c.f6.length d6] 33 (0,0))):=⟨HZQ.out⟩
   have z0 : W7.drew.cell? ⟨q,6,none⟩ = some (.slice (some bd) n6 d6):=g6
   have z1 : W7.drew.cell? (bd.add (t6 * 6)) = some (.string m.f0):=sC HBQ6.out h0
   have z2 : W7.drew.cell? ⟨(bd.add (t6 * 6)).block,(bd.add (t6 * 6)).off + 1,none⟩ = some (.string m.f1):=sC HBQ6.out h1
   have z3 : W7.drew.cell? ⟨(bd.add (t6 * 6)).block,(bd.add (t6 * 6)).off + 2,none⟩ = some (.bool m.f2):=sC HBQ6.out h2
   have z4 : W7.drew.cell? ⟨(bd.add (t6 * 6)).block,(bd.add (t6 * 6)).off + 3,none⟩ = some (.bool m.f3):=sC HBQ6.out h3
   have z5 : W7.drew.cell? ⟨(bd.add (t6 * 6)).block,(bd.add (t6 * 6)).off + 4,none⟩ = some (.int .i64 m.f4):=sC HBQ6.out h4
   have z6 : W7.drew.cell? ⟨(bd.add (t6 * 6)).block,(bd.add (t6 * 6)).off + 5,none⟩ = some (.slice D5 m.f5.length e5):=sC HBQ6.out h5
   have hi0 : (0 : Int) ≤ (t6 : Int):=by omega
   clear hmm h0 h1 h2 h3 h4 h5 hnz
   go_wp2_with fail
   refine start_ (n:=12) (S:=fun w' => w'.cell? ⟨q,6,none⟩ = some (.slice (some bd) n6 d6) ∧ w'.cell? (bd.add (t6 * 6)) = some (.string m.f0) ∧ w'.cell? ⟨(bd.add (t6 * 6)).block,(bd.add (t6 * 6)).off + 1,none⟩ = some (.string m.f1) ∧ w'.cell? ⟨(bd.add (t6 * 6)).block,(bd.add (t6 * 6)).off + 2,none⟩ = some (.bool m.f2) ∧ w'.cell? ⟨(bd.add (t6 * 6)).block,(bd.add (t6 * 6)).off + 3,none⟩ = some (.bool m.f3) ∧ w'.cell? ⟨(bd.add (t6 * 6)).block,(bd.add (t6 * 6)).off + 4,none⟩ = some (.int .i64 m.f4) ∧ w'.cell? ⟨(bd.add (t6 * 6)).block,(bd.add (t6 * 6)).off + 5,none⟩ = some (.slice D5 m.f5.length e5)) (ds:=[11]) (Array.replicate 12 false) (by kernel_rfl) rfl rfl ⟨z0,z1,z2,z3,z4,z5,z6⟩ (fun hHeld => ?_)
   generalize W7.drew = X at HBX HQX HDX HBQ6 z0 z1 z2 z3 z4 z5 z6 hHeld ⊢
   refine sP (i:=0) (N:=some 31) ?_
   refine sP (i:=2) (N:=some 33) ?_
   refine sP (i:=3) (N:=some 34) ?_
   refine sP (i:=4) (N:=some 35) ?_
   refine sT (i:=1) (N:=some 32) hHeld ?_
   refine sT (i:=5) (N:=some 36) hHeld ?_
   refine sP (i:=6) (N:=some 37) ?_
   refine sP (i:=7) (N:=some 38) ?_
   refine sP (i:=8) (N:=some 39) ?_
   refine sT (i:=9) (N:=some 40) hHeld ?_
   refine sO (i:=10) (N:=some 8) fun K hK => ?_
   refine value_ (w1:=?_) (v:=?_) (by rfl) rfl ?_ ?_
   rotate_left 2
   ·
    go_simp
    constructor
    ·
     rfl
    ·
     rfl
   have HF8:=aq (World.alloc_heap_new X (Obj.cells zM 37))
   have HD8:=aq (below_alloc (Below.refl X.heap.size X) (Obj.cells zM 37))
   refine hK.out _ _ ⟨(((below_alloc (Below.refl X.heap.size X) (Obj.cells zM 37)).cell (World.block_lt_of_cell? _ _ z0)).trans z0),(((below_alloc (Below.refl X.heap.size X) (Obj.cells zM 37)).cell (World.block_lt_of_cell? _ _ z1)).trans z1),(((below_alloc (Below.refl X.heap.size X) (Obj.cells zM 37)).cell (World.block_lt_of_cell? _ _ z2)).trans z2),(((below_alloc (Below.refl X.heap.size X) (Obj.cells zM 37)).cell (World.block_lt_of_cell? _ _ z3)).trans z3),(((below_alloc (Below.refl X.heap.size X) (Obj.cells zM 37)).cell (World.block_lt_of_cell? _ _ z4)).trans z4),(((below_alloc (Below.refl X.heap.size X) (Obj.cells zM 37)).cell (World.block_lt_of_cell? _ _ z5)).trans z5),(((below_alloc (Below.refl X.heap.size X) (Obj.cells zM 37)).cell (World.block_lt_of_cell? _ _ z6)).trans z6)⟩ (fun hHeld => ?_)
   clear hK K
   refine sN ?_
   refine sX (i:=11) (N:=none) fun K hK => ?_
   refine step_store_blk HF8.out 37 _ _ 0 6 ([.string m.f0,.string m.f1,.bool m.f2,.bool m.f3,.int .i64 m.f4,.slice D5 m.f5.length e5]) (by rfl) rfl rfl rfl rfl rfl (show 6 ≤ 6 from Nat.le_refl _) (by kernel_rfl) rfl (cs':=(zH m D5 e5)) (by kernel_rfl) ?_
   intro W8 hq hB hF hsz
   have HZ8:=aq hq
   have HB8:=aq (hB _ _ (Nat.le_refl _) HD8.out)
   clear hq hB hF hsz
   refine hK.out _ _ ?_
   clear hK K
   refine done_ (by kernel_rfl) ?_
   clear z0 z1 z2 z3 z4 z5 z6 hHeld
   have HBV : Aside0 (Below w.heap.size w W8):=⟨below_step HBX.out HB8.out⟩
   have HQ8 : Aside0 (W8.heap[w.heap.size + 1]? = some (Obj.cells zR 25 (0,0))):=⟨blk_below HQX.out HB8.out⟩
   have g0 : W8.cell? ⟨q,0,none⟩ = some (.string c.f0):=blk_cell (blk_below HDX.out HB8.out) 0
   have m0 : W8.cell? ⟨X.heap.size,0,none⟩ = some (.string m.f0):=blk_cell HZ8.out 0
   have m1 : W8.cell? ⟨X.heap.size,1,none⟩ = some (.string m.f1):=blk_cell HZ8.out 1
   have e0 : W8.cell? ⟨w.heap.size + 1,0,none⟩ = some (.string ⟨#[]⟩):=blk_cell HQ8.out 0
   have e1 : W8.cell? ⟨w.heap.size + 1,1,none⟩ = some (.string ⟨#[]⟩):=blk_cell HQ8.out 1
   have e2 : W8.cell? ⟨w.heap.size + 1,2,none⟩ = some (.string ⟨#[]⟩):=blk_cell HQ8.out 2
   have ef:=blk_frozen HQ8.out
   go_wp2_with fail
   exact bodyPost_ret (results_cell_row rfl _ _ (w.heap.size + 1) 25 #[.string c.f0,.string m.f0,.string m.f1] (0,0) _ rfl (set3_own HQ8.out _ _ _) Try.underlying25 rfl (by kernel_rfl)) rfl ⟨_,_,_,rfl,set3_belowA HBV.out (Nat.le_succ _) _ _ _⟩
def okI (x : S74) : Prop := x.f8.length ≤ 60 ∧ x.f5.size ≤ 300 ∧ x.f6.size ≤ 300 ∧ x.f7.size ≤ 300
def okM (m : S37) : Prop := m.f5.length ≤ 300 ∧ ∀ x ∈ m.f5, okI x
def okC (c : S33) : Prop := c.f6.length ≤ 40 ∧ c.f0.size ≤ 300 ∧ ∀ m ∈ c.f6, okM m
theorem wrap_next (i n : Nat) (h : i < n) (hn : n ≤ 1000) : wrap64 ((i : Int) + 1) = ((i + 1 : Nat) : Int) := by
 unfold wrap64
 omega
theorem ok_next {α : Type} {p : α → Prop} {xs : List α} {i : Nat} {x : α} (h : ∀ y ∈ xs.take i, p y) (hi : i < xs.length) (e : xs[i] = x) (hp : p x) : ∀ y ∈ xs.take (i + 1), p y := by
 intro y hy
 rw [List.take_succ_eq_append_getElem hi] at hy
 rcases List.mem_append.1 hy with hy|hy
 ·
  exact h y hy
 ·
  obtain rfl:=List.mem_singleton.1 hy
  rw [e]
  exact hp
theorem ok_end {α : Type} {p : α → Prop} {xs : List α} {i : Nat} (h : ∀ y ∈ xs.take i, p y) (hi : i = xs.length) : ∀ y ∈ xs, p y := by
 rw [hi,List.take_length] at h
 exact h
theorem law_great (A0 : Option Addr) (c0 : Nat) (l0 : List S33) (A1 : Option Addr) (c1 : Nat) (l1 : List ByteArray) (a2 a3 a4 : ByteArray) (w : World) (hr0 : Kd.C k33 w A0 l0.length l0) :
  Calls Try.prog 9 #[.agg (pG A0 l0 c0 A1 l1 c1 a2 a3 a4)] w fun e w' => ∃ gr,e = .returned (.bool gr) ∧ (gr = false → l0.length ≤ 70 ∧ ∀ c ∈ l0,okC c) ∧ Below w.heap.size w w':=by
 have HB1:=aq (below_alloc (Below.refl w.heap.size w) (Obj.cells (pG A0 l0 c0 A1 l1 c1 a2 a3 a4) 27))
 have HR1:=aq (Kd.C_below hr0 HB1.out)
 have HP1:=aq (World.alloc_heap_new w (Obj.cells (pG A0 l0 c0 A1 l1 c1 a2 a3 a4) 27))
 obtain ⟨n,hn⟩ : ∃ n,n = l0.length:=⟨_,rfl⟩
 have HNN:=aq hn
 have p0 : (w.alloc (Obj.cells (pG A0 l0 c0 A1 l1 c1 a2 a3 a4) 27)).cell? ⟨w.heap.size,0,none⟩ = some (.slice A0 n c0):=by rw [hn];exact blk_cell HP1.out 0
 have p1 : (w.alloc (Obj.cells (pG A0 l0 c0 A1 l1 c1 a2 a3 a4) 27)).cell? ⟨w.heap.size,1,none⟩ = some (.slice A1 l1.length c1):=blk_cell HP1.out 1
 clear hr0 hn
 go_enter Try.func9,Try.ntmps9
 by_cases ga : 70 < n
 ·
  have ha : decide ((n : Int) > 70) = true:=decide_eq_true (by omega)
  clear ga
  go_wp2_with fail
  exact bodyPost_ret (results_tmp rfl _ _ _) rfl ⟨true,rfl,fun h => absurd h.symm Bool.false_ne_true,HB1.out⟩
 have ha : decide ((n : Int) > 70) = false:=decide_eq_false (by omega)
 by_cases gb : 70 < l1.length
 ·
  have hb : decide ((l1.length : Int) > 70) = true:=decide_eq_true (by omega)
  clear gb
  go_wp2_with fail
  exact bodyPost_ret (results_tmp rfl _ _ _) rfl ⟨true,rfl,fun h => absurd h.symm Bool.false_ne_true,HB1.out⟩
 have hb : decide ((l1.length : Int) > 70) = false:=decide_eq_false (by omega)
 go_upto_block 0 with fail
 generalize w.alloc (Obj.cells (pG A0 l0 c0 A1 l1 c1 a2 a3 a4) 27) = W1 at HB1 HR1 HP1 p0 p1 ⊢
 generalize (Value.agg (pG A0 l0 c0 A1 l1 c1 a2 a3 a4)) = cv
 have HN70 : Aside0 (n ≤ 70):=⟨by omega⟩
 clear p0 p1 ga gb ha hb
 go_wp2_with fail
 go_loopg [3] n (fun kq v3 wr => ∃ (i : Nat),v3 = .int .i64 (i : Int) ∧ i + kq = n ∧ Aside0 (∀ y ∈ l0.take i,okC y) ∧ Aside0 (Below W1.heap.size W1 wr))
 case atStart => exact ⟨0,rfl,by omega,⟨fun y h => by cases h⟩,⟨Below.refl _ _⟩⟩
 case round =>
  obtain ⟨i,rfl,hi,HO,HBL⟩:=hrel
  have p0 : wr.cell? ⟨w.heap.size,0,none⟩ = some (.slice A0 n c0):=by rw [HNN.out];exact blk_cell (blk_below HP1.out HBL.out) 0
  by_cases hlt : i < n
  ·
   have hltX : i < l0.length:=by rw [← HNN.out];exact hlt
   obtain ⟨ad,B4,d4,B5,d5,B6,d6,hA,h0,h1,h2,h3,h4,h5,h6,_,_,_,_,hl6,hC6⟩:=at_T33 (Kd.C_below HR1.out HBL.out) (i : Int) (by omega) (Int.ofNat_lt.2 hltX)
   obtain ⟨c,hc⟩ : ∃ c,l0[i] = c:=⟨_,rfl⟩
   have hrd : rd_T33 l0 (i : Int) = c:=by
    rw [← hc]
    unfold rd_T33
    rw [Int.toNat_natCast,List.getD_eq_getElem?_getD,List.getElem?_eq_getElem hltX]
    rfl
   rw [hrd,Int.toNat_natCast] at h0 h1 h2 h3 h4 h5 h6
   rw [hrd] at hl6 hC6
   subst hA
   have HNX:=aq (fun hp => ok_next (p:=okC) HO.out hltX hc hp)
   have hd : decide ((i : Int) < (n : Int)) = true:=decide_eq_true (by omega)
   have hi0 : (0 : Int) ≤ (i : Int):=by omega
   have hi1 : (i : Int) < (n : Int):=by omega
   have HLT:=aq hlt
   have HZ2:=aq (World.alloc_heap_new wr (Obj.cells (zC c B4 d4 B5 d5 B6 d6) 33))
   have HB2 : Aside0 (Below W1.heap.size W1 (wr.alloc (Obj.cells (zC c B4 d4 B5 d5 B6 d6) 33))):=⟨below_alloc HBL.out _⟩
   have HC6:=aq (Kd.C_below hC6 (below_alloc (Below.refl wr.heap.size wr) (Obj.cells (zC c B4 d4 B5 d5 B6 d6) 33)))
   have HBF : Aside0 (Below w.heap.size w (wr.alloc (Obj.cells (zC c B4 d4 B5 d5 B6 d6) 33))):=⟨below_step HB1.out HB2.out⟩
   have k0 : (wr.alloc (Obj.cells (zC c B4 d4 B5 d5 B6 d6) 33)).cell? ⟨wr.heap.size,0,none⟩ = some (.string c.f0):=blk_cell HZ2.out 0
   have k1 : (wr.alloc (Obj.cells (zC c B4 d4 B5 d5 B6 d6) 33)).cell? ⟨wr.heap.size,1,none⟩ = some (.string c.f1):=blk_cell HZ2.out 1
   have k4 : (wr.alloc (Obj.cells (zC c B4 d4 B5 d5 B6 d6) 33)).cell? ⟨wr.heap.size,4,none⟩ = some (.slice B4 c.f4.length d4):=blk_cell HZ2.out 4
   have k5 : (wr.alloc (Obj.cells (zC c B4 d4 B5 d5 B6 d6) 33)).cell? ⟨wr.heap.size,5,none⟩ = some (.slice B5 c.f5.length d5):=blk_cell HZ2.out 5
   have k6 : (wr.alloc (Obj.cells (zC c B4 d4 B5 d5 B6 d6) 33)).cell? ⟨wr.heap.size,6,none⟩ = some (.slice B6 c.f6.length d6):=blk_cell HZ2.out 6
   obtain ⟨K1,hK1⟩ : ∃ K1,i + 1 + K1 = n ∧ K1 < gk:=⟨gk - 1,by omega⟩
   have HGO:=aq hK1
   clear hc hrd hl6 hC6 hltX hK1 hi hlt
   by_cases gc4 : 40 < c.f4.length
   ·
    have hc4 : decide ((c.f4.length : Int) > 40) = true:=decide_eq_true (by omega)
    clear gc4
    go_wp2_with fail
    exact bodyPost_ret (results_tmp rfl _ _ _) rfl ⟨true,rfl,fun h => absurd h.symm Bool.false_ne_true,HBF.out⟩
   have hc4 : decide ((c.f4.length : Int) > 40) = false:=decide_eq_false (by omega)
   by_cases gc5 : 40 < c.f5.length
   ·
    have hc5 : decide ((c.f5.length : Int) > 40) = true:=decide_eq_true (by omega)
    clear gc5
    go_wp2_with fail
    exact bodyPost_ret (results_tmp rfl _ _ _) rfl ⟨true,rfl,fun h => absurd h.symm Bool.false_ne_true,HBF.out⟩
   have hc5 : decide ((c.f5.length : Int) > 40) = false:=decide_eq_false (by omega)
   by_cases gc6 : 40 < c.f6.length
   ·
    have hc6 : decide ((c.f6.length : Int) > 40) = true:=decide_eq_true (by omega)
    clear gc6
    go_wp2_with fail
    exact bodyPost_ret (results_tmp rfl _ _ _) rfl ⟨true,rfl,fun h => absurd h.symm Bool.false_ne_true,HBF.out⟩
   have hc6 : decide ((c.f6.length : Int) > 40) = false:=decide_eq_false (by omega)
   by_cases gc0 : 300 < c.f0.size
   ·
    have hc0 : decide ((c.f0.size : Int) > 300) = true:=decide_eq_true (by omega)
    clear gc0
    go_wp2_with fail
    exact bodyPost_ret (results_tmp rfl _ _ _) rfl ⟨true,rfl,fun h => absurd h.symm Bool.false_ne_true,HBF.out⟩
   have hc0 : decide ((c.f0.size : Int) > 300) = false:=decide_eq_false (by omega)
   by_cases gc1 : 300 < c.f1.size
   ·
    have hc1 : decide ((c.f1.size : Int) > 300) = true:=decide_eq_true (by omega)
    clear gc1
    go_wp2_with fail
    exact bodyPost_ret (results_tmp rfl _ _ _) rfl ⟨true,rfl,fun h => absurd h.symm Bool.false_ne_true,HBF.out⟩
   have hc1 : decide ((c.f1.size : Int) > 300) = false:=decide_eq_false (by omega)
   go_upto_block 2 with fail
   have HM6 : Aside0 (c.f6.length ≤ 40 ∧ c.f0.size ≤ 300):=⟨by omega,by omega⟩
   generalize wr.alloc (Obj.cells (zC c B4 d4 B5 d5 B6 d6) 33) = W2 at HZ2 HB2 HC6 HBF k0 k1 k4 k5 k6 ⊢
   obtain ⟨q,hq⟩ : ∃ q,q = wr.heap.size:=⟨_,rfl⟩
   rw [← hq] at HZ2 ⊢
   clear gc4 gc5 gc6 gc0 gc1 hc4 hc5 hc6 hc0 hc1 k0 k1 k4 k5 k6 h0 h1 h2 h3 h4 h5 h6 p0 hd hi0 hi1 hq
   obtain ⟨n2,hn2⟩ : ∃ n2,n2 = c.f6.length:=⟨_,rfl⟩
   have HN2:=aq hn2
   clear hn2
   go_wp2_with fail
   go_loopg [5] n2 (fun kq v5 wi => ∃ (j : Nat),v5 = .int .i64 (j : Int) ∧ j + kq = n2 ∧ Aside0 (∀ y ∈ c.f6.take j,okM y) ∧ Aside0 (Below W2.heap.size W2 wi))
   case atStart => exact ⟨0,rfl,by omega,⟨fun y h => by cases h⟩,⟨Below.refl _ _⟩⟩
   case round =>
    obtain ⟨j,rfl,hj,HOM,HBM⟩:=hrel
    have q6 : wr.cell? ⟨q,6,none⟩ = some (.slice B6 n2 d6):=by rw [HN2.out];exact blk_cell (blk_below HZ2.out HBM.out) 6
    by_cases hlj : j < n2
    ·
     have hljX : j < c.f6.length:=by rw [← HN2.out];exact hlj
     obtain ⟨bd,D5,e5,hA,h0,h1,h2,h3,h4,h5,hl5,hC5⟩:=at_T37 (Kd.C_below HC6.out HBM.out) (j : Int) (by omega) (Int.ofNat_lt.2 hljX)
     obtain ⟨m,hm⟩ : ∃ m,c.f6[j] = m:=⟨_,rfl⟩
     have hrd : rd_T37 c.f6 (j : Int) = m:=by
      rw [← hm]
      unfold rd_T37
      rw [Int.toNat_natCast,List.getD_eq_getElem?_getD,List.getElem?_eq_getElem hljX]
      rfl
     rw [hrd,Int.toNat_natCast] at h0 h1 h2 h3 h4 h5
     rw [hrd] at hl5 hC5
     subst hA
     have HNM:=aq (fun hp => ok_next (p:=okM) HOM.out hljX hm hp)
     have hdj : decide ((j : Int) < (n2 : Int)) = true:=decide_eq_true (by omega)
     have hj0 : (0 : Int) ≤ (j : Int):=by omega
     have hj1 : (j : Int) < (n2 : Int):=by omega
     have HLJ:=aq hlj
     have HZ3:=aq (World.alloc_heap_new wr (Obj.cells (zH m D5 e5) 37))
     have HB3 : Aside0 (Below W2.heap.size W2 (wr.alloc (Obj.cells (zH m D5 e5) 37))):=⟨below_alloc HBM.out _⟩
     have HC5:=aq (Kd.C_below hC5 (below_alloc (Below.refl wr.heap.size wr) (Obj.cells (zH m D5 e5) 37)))
     have HBG : Aside0 (Below w.heap.size w (wr.alloc (Obj.cells (zH m D5 e5) 37))):=⟨below_step HBF.out HB3.out⟩
     have k0 : (wr.alloc (Obj.cells (zH m D5 e5) 37)).cell? ⟨wr.heap.size,0,none⟩ = some (.string m.f0):=blk_cell HZ3.out 0
     have k1 : (wr.alloc (Obj.cells (zH m D5 e5) 37)).cell? ⟨wr.heap.size,1,none⟩ = some (.string m.f1):=blk_cell HZ3.out 1
     have k5 : (wr.alloc (Obj.cells (zH m D5 e5) 37)).cell? ⟨wr.heap.size,5,none⟩ = some (.slice D5 m.f5.length e5):=blk_cell HZ3.out 5
     obtain ⟨K2,hK2⟩ : ∃ K2,j + 1 + K2 = n2 ∧ K2 < gk:=⟨gk - 1,by omega⟩
     have HGJ:=aq hK2
     clear hm hrd hl5 hC5 hljX hK2 hj hlj
     by_cases gm5 : 300 < m.f5.length
     ·
      have hm5 : decide ((m.f5.length : Int) > 300) = true:=decide_eq_true (by omega)
      clear gm5
      go_wp2_with fail
      exact bodyPost_ret (results_tmp rfl _ _ _) rfl ⟨true,rfl,fun h => absurd h.symm Bool.false_ne_true,HBG.out⟩
     have hm5 : decide ((m.f5.length : Int) > 300) = false:=decide_eq_false (by omega)
     by_cases gm0 : 300 < m.f0.size
     ·
      have hm0 : decide ((m.f0.size : Int) > 300) = true:=decide_eq_true (by omega)
      clear gm0
      go_wp2_with fail
      exact bodyPost_ret (results_tmp rfl _ _ _) rfl ⟨true,rfl,fun h => absurd h.symm Bool.false_ne_true,HBG.out⟩
     have hm0 : decide ((m.f0.size : Int) > 300) = false:=decide_eq_false (by omega)
     by_cases gm1 : 300 < m.f1.size
     ·
      have hm1 : decide ((m.f1.size : Int) > 300) = true:=decide_eq_true (by omega)
      clear gm1
      go_wp2_with fail
      exact bodyPost_ret (results_tmp rfl _ _ _) rfl ⟨true,rfl,fun h => absurd h.symm Bool.false_ne_true,HBG.out⟩
     have hm1 : decide ((m.f1.size : Int) > 300) = false:=decide_eq_false (by omega)
     go_upto_block 4 with fail
     have HM5 : Aside0 (m.f5.length ≤ 300):=⟨by omega⟩
     generalize wr.alloc (Obj.cells (zH m D5 e5) 37) = W3 at HZ3 HB3 HC5 HBG k0 k1 k5 ⊢
     obtain ⟨q3,hq3⟩ : ∃ q,q = wr.heap.size:=⟨_,rfl⟩
     rw [← hq3] at HZ3 ⊢
     clear gm5 gm0 gm1 hm5 hm0 hm1 k0 k1 k5 h0 h1 h2 h3 h4 h5 q6 hdj hj0 hj1 hq3
     obtain ⟨n3,hn3⟩ : ∃ n3,n3 = m.f5.length:=⟨_,rfl⟩
     have HN3:=aq hn3
     clear hn3
     go_wp2_with fail
     go_loopg [7] n3 (fun kq v7 wk => ∃ (t : Nat),v7 = .int .i64 (t : Int) ∧ t + kq = n3 ∧ Aside0 (∀ y ∈ m.f5.take t,okI y) ∧ Aside0 (Below W3.heap.size W3 wk))
     case atStart => exact ⟨0,rfl,by omega,⟨fun y h => by cases h⟩,⟨Below.refl _ _⟩⟩
     case round =>
      obtain ⟨t,rfl,ht,HOI,HBI⟩:=hrel
      have q5 : wr.cell? ⟨q3,5,none⟩ = some (.slice D5 n3 e5):=by rw [HN3.out];exact blk_cell (blk_below HZ3.out HBI.out) 5
      have HBH : Aside0 (Below w.heap.size w wr):=⟨below_step HBG.out HBI.out⟩
      by_cases hlt : t < n3
      ·
       have hltX : t < m.f5.length:=by rw [← HN3.out];exact hlt
       obtain ⟨id,A8,c8,hA,h0,h1,h2,h3,h4,h5,h6,h7,h8,hl8,hC8⟩:=at_T74 (Kd.C_below HC5.out HBI.out) (t : Int) (by omega) (Int.ofNat_lt.2 hltX)
       obtain ⟨x,hx⟩ : ∃ x,m.f5[t] = x:=⟨_,rfl⟩
       have hrd : rd_T74 m.f5 (t : Int) = x:=by
        rw [← hx]
        unfold rd_T74
        rw [Int.toNat_natCast,List.getD_eq_getElem?_getD,List.getElem?_eq_getElem hltX]
        rfl
       rw [hrd,Int.toNat_natCast] at h0 h1 h2 h3 h4 h5 h6 h7 h8
       subst hA
       have HNI:=aq (fun hp => ok_next (p:=okI) HOI.out hltX hx hp)
       have hdt : decide ((t : Int) < (n3 : Int)) = true:=decide_eq_true (by omega)
       have ht0 : (0 : Int) ≤ (t : Int):=by omega
       have ht1 : (t : Int) < (n3 : Int):=by omega
       have HLI:=aq hlt
       obtain ⟨K3,hK3⟩ : ∃ K3,t + 1 + K3 = n3 ∧ K3 < gk:=⟨gk - 1,by omega⟩
       have HGI:=aq hK3
       clear hx hrd hl8 hC8 hltX hK3 ht hlt h0 h1 h2 h3 h4
       by_cases gi8 : 60 < x.f8.length
       ·
        have hi8 : decide ((x.f8.length : Int) > 60) = true:=decide_eq_true (by omega)
        clear gi8
        go_wp2_with fail
        exact bodyPost_ret (results_tmp rfl _ _ _) rfl ⟨true,rfl,fun h => absurd h.symm Bool.false_ne_true,HBH.out⟩
       have hi8 : decide ((x.f8.length : Int) > 60) = false:=decide_eq_false (by omega)
       by_cases gi5 : 300 < x.f5.size
       ·
        have hi5 : decide ((x.f5.size : Int) > 300) = true:=decide_eq_true (by omega)
        clear gi5
        go_wp2_with fail
        exact bodyPost_ret (results_tmp rfl _ _ _) rfl ⟨true,rfl,fun h => absurd h.symm Bool.false_ne_true,HBH.out⟩
       have hi5 : decide ((x.f5.size : Int) > 300) = false:=decide_eq_false (by omega)
       by_cases gi6 : 300 < x.f6.size
       ·
        have hi6 : decide ((x.f6.size : Int) > 300) = true:=decide_eq_true (by omega)
        clear gi6
        go_wp2_with fail
        exact bodyPost_ret (results_tmp rfl _ _ _) rfl ⟨true,rfl,fun h => absurd h.symm Bool.false_ne_true,HBH.out⟩
       have hi6 : decide ((x.f6.size : Int) > 300) = false:=decide_eq_false (by omega)
       by_cases gi7 : 300 < x.f7.size
       ·
        have hi7 : decide ((x.f7.size : Int) > 300) = true:=decide_eq_true (by omega)
        clear gi7
        go_wp2_with fail
        exact bodyPost_ret (results_tmp rfl _ _ _) rfl ⟨true,rfl,fun h => absurd h.symm Bool.false_ne_true,HBH.out⟩
       have hi7 : decide ((x.f7.size : Int) > 300) = false:=decide_eq_false (by omega)
       have HOK : Aside0 (okI x):=⟨by omega,by omega,by omega,by omega⟩
       clear gi8 gi5 gi6 gi7
       go_wp2_with fail
       go_roundg K3
       case measure => exact HGI.out.2
       case rel => exact ⟨t + 1,by rw [show wrap64 ((t : Int) + 1) = ((t + 1 : Nat) : Int) from wrap_next t n3 HLI.out (by have h1:=HM5.out;have h2:=HN3.out;omega)],HGI.out.1,⟨HNI.out HOK.out⟩,HBI⟩
      ·
       have hdt : decide ((t : Int) < (n3 : Int)) = false:=decide_eq_false (by omega)
       have HMM : Aside0 (okM m):=⟨HM5.out,ok_end HOI.out (by rw [← HN3.out];omega)⟩
       go_wp2_with fail
       go_roundg K2
       case measure => exact HGJ.out.2
       case rel => exact ⟨j + 1,by rw [show wrap64 ((j : Int) + 1) = ((j + 1 : Nat) : Int) from wrap_next j n2 HLJ.out (by have h1:=HM6.out;have h2:=HN2.out;omega)],HGJ.out.1,⟨HNM.out HMM.out⟩,⟨below_step HB3.out (HBI.out)⟩⟩
    ·
     have hdj : decide ((j : Int) < (n2 : Int)) = false:=decide_eq_false (by omega)
     have HMC : Aside0 (okC c):=⟨HM6.out.1,HM6.out.2,ok_end HOM.out (by rw [← HN2.out];omega)⟩
     go_wp2_with fail
     go_roundg K1
     case measure => exact HGO.out.2
     case rel => exact ⟨i + 1,by rw [show wrap64 ((i : Int) + 1) = ((i + 1 : Nat) : Int) from wrap_next i n HLT.out (by have h1:=HN70.out;omega)],HGO.out.1,⟨HNX.out HMC.out⟩,⟨below_step HB2.out HBM.out⟩⟩
  ·
   have hd : decide ((i : Int) < (n : Int)) = false:=decide_eq_false (by omega)
   have HBF:=aq (below_step HB1.out HBL.out)
   have HOE:=aq (ok_end HO.out (by rw [← HNN.out];omega))
   go_wp2_with fail
   exact bodyPost_ret (results_tmp rfl _ _ _) rfl ⟨false,rfl,fun _ => ⟨by rw [← HNN.out];exact HN70.out,HOE.out⟩,HBF.out⟩
end Go.Proofs.Ytfplcohjnlbfjaa.Hand
end

section
namespace Go.Proofs.Ytfplcohjnlbfjaa.Q54
open Go.RowKit Go.Proofs.YtfplcohjnlbfjaaW
open PrintWords PrintLast PrintMore Go.Proofs.Ytfplcohjnlbfjaa.Hand
attribute [local go_sem] max2_int min2_int max_two min_two max_three min_three max_four min_four
def errW : Option Int → Value
  | none => .nilIface
  | some c => .iface 0 (.int .i64 c)
theorem errW_none : errW none = .nilIface := rfl
theorem errW_some (c : Int) : errW (some c) = .iface 0 (.int .i64 c) := rfl
theorem info97 : (Try.prog.info? 97).map (fun i => (i.zero, i.size, i.bytes)) = some (some (.agg #[(.int .i64 0), (.string ⟨#[]⟩)]), 2, 24) := by kernel_rfl
def sr07_Has.l0 : Nat → ByteArray → Int → Int → Option (Bool)
  | 0,_,_,_ => none
  | k + 1,x0,x1,x5 => if x5 < (x0.size : Int) then (if 0 ≤ x5 then (if (bt x0 x5) = x1 then (some true) else (sr07_Has.l0 k x0 x1 (wrap64 (x5 + 1)))) else (none)) else (some false)
def sr07_Has.f (k : Nat) (a0 : ByteArray) (a1 : Int) : Option (Bool) := sr07_Has.l0 k a0 a1 0
theorem sr07_Has.calls (k : Nat) (a0 : ByteArray) (a1 : Int) (r : Bool) (w : World) (h : sr07_Has.f k a0 a1 = some r) :
    Calls Try.prog 74 #[.string a0,.int .u8 a1] w fun e w' => e = .returned (.bool r) ∧ Drawn0 w w':=by
 have H : (sr07_Has.l0 k a0 a1 0) = some r:=h
 clear h
 have H':=aq H
 clear H
 go_enter Try.func74,Try.ntmps74
 go_wp2
 go_loopg [5] k (fun kq v5 w' => ∃ (x5_1 : Int),v5 = .int .i64 x5_1 ∧ Aside0 (sr07_Has.l0 kq a0 a1 x5_1 = some r) ∧ Aside0 (kq ≤ k) ∧ Drawn0 w w')
 case atStart => exact ⟨(0),eS,H',⟨Nat.le_refl _⟩,dR⟩
 case round =>
 clear H'
 obtain ⟨x5_1,rfl,HA,HK1,⟨m1,rfl⟩⟩:=hrel
 cases gk with
 | zero => exact absurd HA.out (by simp [sr07_Has.l0])
 | succ k1 =>
 have H:=HA.out
 clear HA
 simp only [sr07_Has.l0] at H
 by_cases c3 : x5_1 < (a0.size : Int)
 rotate_left
 · rw [if_neg c3] at H
   have c3b0 : decide (x5_1 < (a0.size : Int)) = false:=decide_eq_false c3
   clear c3
   obtain rfl:=Option.some.inj H
   go_wp2
   go_ret
   exact ⟨eS,dR⟩
 rw [if_pos c3] at H
 have c3b0 : decide (x5_1 < (a0.size : Int)) = true:=decide_eq_true c3
 clear c3
 by_cases c4 : 0 ≤ x5_1
 rotate_left
 · rw [if_neg c4] at H
   exact absurd H (by simp)
 rw [if_pos c4] at H
 have c4b0 : decide (0 ≤ x5_1) = true:=decide_eq_true c4
 clear c4
 by_cases c6 : (bt a0 x5_1) = a1
 · rw [if_pos c6] at H
   have c6b0 : ((bt a0 x5_1) == a1) = true:=beq_iff_eq.mpr c6
   have c6b1 : ((bt a0 x5_1) != a1) = false:=bne_eq_false_iff_eq.mpr c6
   clear c6
   obtain rfl:=Option.some.inj H
   have p5 : 0 ≤ (x5_1 : Int):=of_decide_eq_true aS
   have q5 : x5_1 < (a0.size : Int):=of_decide_eq_true aS
   have hx5:=bt_at a0 x5_1
   replace p5:=eq_true p5
   replace q5:=eq_true q5
   go_wp2
   go_ret
   exact ⟨eS,dR⟩
 rw [if_neg c6] at H
 have c6b0 : ((bt a0 x5_1) == a1) = false:=beq_eq_false_iff_ne.mpr c6
 have c6b1 : ((bt a0 x5_1) != a1) = true:=bne_iff_ne.mpr c6
 have H':=aq H
 clear H
 have p5 : 0 ≤ (x5_1 : Int):=of_decide_eq_true aS
 have q5 : x5_1 < (a0.size : Int):=of_decide_eq_true aS
 have hx5:=bt_at a0 x5_1
 replace p5:=eq_true p5
 replace q5:=eq_true q5
 go_wp2
 go_roundg k1
 case measure => have:=HK1.out;omega
 case rel => exact ⟨(wrap64 (x5_1 + 1)),eS,H',⟨by have:=HK1.out;omega⟩,dR⟩
end Go.Proofs.Ytfplcohjnlbfjaa.Q54
end
