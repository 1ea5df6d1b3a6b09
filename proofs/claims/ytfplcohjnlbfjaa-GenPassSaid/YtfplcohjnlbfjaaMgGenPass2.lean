import Derived.Test.YtfplcohjnlbfjaaMgGenPass1
import Derived.Test.YtfplcohjnlbfjaaProg
import Derived.Below
import Derived.Deep.Draws
import Derived.Deep.AppendLies
import Derived.Maps.AppendAt
import Derived.OwnWalk
import Derived.Laws.BytesArg
import Derived.Laws.MakeOwn
import Derived.Laws.OwnMore
import Derived.Deep.OwnRows
import Derived.Tactics
import Derived.Lib.ConvBytes
import Derived.Laws.Slices
import Derived.WalkKit
import Derived.KernelRfl
import Derived.RowKit3
import Derived.Deep.LoopGhost
import Derived.Deep.QuietTactic
import Derived.BigQuiet
import Derived.WideLaws
import Derived.Deep.DeepCutAuto
import Derived.Deep.CutBlock
import Derived.Deep.RegionHeld3
import Derived.Laws.Rows
import Derived.Lib.AppendStr
import Derived.ArgAppend
import Derived.Laws.IdiomCopy
import Derived.OrdersHeld
import Derived.Laws.BitsLemmas
import Derived.RowKit
import Derived.Test.YtfplcohjnlbfjaaMgGenPass0
section
namespace Go.Proofs.Ytfplcohjnlbfjaa.Hand
open Go.RowKit Go.Proofs.YtfplcohjnlbfjaaW.PrintWords Go.Proofs.YtfplcohjnlbfjaaW.PrintLast Go.Proofs.YtfplcohjnlbfjaaW.PrintMore
set_option linter.unusedVariables false
set_option linter.unusedSimpArgs false
set_option maxRecDepth 20000
theorem set12_own {w : World} {R : Nat} {t : TypeId} {u0 u1 u2 u3 u4 u5 u6 u7 u8 u9 u10 u11 : Value} (h : w.heap[R]? = some (Obj.cells #[u0, u1, u2, u3, u4, u5, u6, u7, u8, u9, u10, u11] t (0, 0))) (v0 v1 v2 v3 v4 v5 v6 v7 v8 v9 v10 v11 : Value) : ((((((((((((w.setCell ⟨R, 0, none⟩ (v0)).setCell ⟨R, 1, none⟩ (v1)).setCell ⟨R, 2, none⟩ (v2)).setCell ⟨R, 3, none⟩ (v3)).setCell ⟨R, 4, none⟩ (v4)).setCell ⟨R, 5, none⟩ (v5)).setCell ⟨R, 6, none⟩ (v6)).setCell ⟨R, 7, none⟩ (v7)).setCell ⟨R, 8, none⟩ (v8)).setCell ⟨R, 9, none⟩ (v9)).setCell ⟨R, 10, none⟩ (v10)).setCell ⟨R, 11, none⟩ (v11)).heap[R]? = some (Obj.cells #[v0, v1, v2, v3, v4, v5, v6, v7, v8, v9, v10, v11] t (0, 0)) := (blk_put (cs := #[v0, v1, v2, v3, v4, v5, v6, v7, v8, v9, v10, u11]) (blk_put (cs := #[v0, v1, v2, v3, v4, v5, v6, v7, v8, v9, u10, u11]) (blk_put (cs := #[v0, v1, v2, v3, v4, v5, v6, v7, v8, u9, u10, u11]) (blk_put (cs := #[v0, v1, v2, v3, v4, v5, v6, v7, u8, u9, u10, u11]) (blk_put (cs := #[v0, v1, v2, v3, v4, v5, v6, u7, u8, u9, u10, u11]) (blk_put (cs := #[v0, v1, v2, v3, v4, v5, u6, u7, u8, u9, u10, u11]) (blk_put (cs := #[v0, v1, v2, v3, v4, u5, u6, u7, u8, u9, u10, u11]) (blk_put (cs := #[v0, v1, v2, v3, u4, u5, u6, u7, u8, u9, u10, u11]) (blk_put (cs := #[v0, v1, v2, u3, u4, u5, u6, u7, u8, u9, u10, u11]) (blk_put (cs := #[v0, v1, u2, u3, u4, u5, u6, u7, u8, u9, u10, u11]) (blk_put (cs := #[v0, u1, u2, u3, u4, u5, u6, u7, u8, u9, u10, u11]) (blk_put (cs := #[u0, u1, u2, u3, u4, u5, u6, u7, u8, u9, u10, u11]) h 0 (v0) rfl) 1 (v1) rfl) 2 (v2) rfl) 3 (v3) rfl) 4 (v4) rfl) 5 (v5) rfl) 6 (v6) rfl) 7 (v7) rfl) 8 (v8) rfl) 9 (v9) rfl) 10 (v10) rfl) 11 (v11) rfl)
theorem set12_below {n : Nat} {w0 w : World} {R : Nat} (h : Below n w0 w) (hR : n ≤ R) (v0 v1 v2 v3 v4 v5 v6 v7 v8 v9 v10 v11 : Value) : Below n w0 ((((((((((((w.setCell ⟨R, 0, none⟩ (v0)).setCell ⟨R, 1, none⟩ (v1)).setCell ⟨R, 2, none⟩ (v2)).setCell ⟨R, 3, none⟩ (v3)).setCell ⟨R, 4, none⟩ (v4)).setCell ⟨R, 5, none⟩ (v5)).setCell ⟨R, 6, none⟩ (v6)).setCell ⟨R, 7, none⟩ (v7)).setCell ⟨R, 8, none⟩ (v8)).setCell ⟨R, 9, none⟩ (v9)).setCell ⟨R, 10, none⟩ (v10)).setCell ⟨R, 11, none⟩ (v11)) := ((((((((((((h.setCell hR _).setCell hR _).setCell hR _).setCell hR _).setCell hR _).setCell hR _).setCell hR _).setCell hR _).setCell hR _).setCell hR _).setCell hR _).setCell hR _)
theorem cells12 {w : World} {g : Nat} {t : TypeId} {u0 u1 u2 u3 u4 u5 u6 u7 u8 u9 u10 u11 : Value} (h : w.heap[g]? = some (Obj.cells #[u0, u1, u2, u3, u4, u5, u6, u7, u8, u9, u10, u11] t (0, 0))) : w.cell? ⟨g, 0, none⟩ = some u0 ∧ w.cell? ⟨g, 1, none⟩ = some u1 ∧ w.cell? ⟨g, 2, none⟩ = some u2 ∧ w.cell? ⟨g, 3, none⟩ = some u3 ∧ w.cell? ⟨g, 4, none⟩ = some u4 ∧ w.cell? ⟨g, 5, none⟩ = some u5 ∧ w.cell? ⟨g, 6, none⟩ = some u6 ∧ w.cell? ⟨g, 7, none⟩ = some u7 ∧ w.cell? ⟨g, 8, none⟩ = some u8 ∧ w.cell? ⟨g, 9, none⟩ = some u9 ∧ w.cell? ⟨g, 10, none⟩ = some u10 ∧ w.cell? ⟨g, 11, none⟩ = some u11 := ⟨blk_cell h 0, blk_cell h 1, blk_cell h 2, blk_cell h 3, blk_cell h 4, blk_cell h 5, blk_cell h 6, blk_cell h 7, blk_cell h 8, blk_cell h 9, blk_cell h 10, blk_cell h 11⟩
set_option maxHeartbeats 16000000 in
theorem maker_reg (g : Nat) (a0 a1 a2 a3 a4 : Value) (m : S25) (pc : Int) (b0 b1 b2 b3 b4 b5 b6 b7 b8 : Value) (v : Value) (r : Int) (w : World) (hm : w.heap[g]? = some (Obj.cells #[a0, a1, a2, a3, a4, .string m.f0, .string m.f1, .string m.f2, .int .i64 pc, b0, b1, b2, b3, b4, b5, b6, b7, b8, v] 85 (0, 0))) :
    Calls Try.prog 38 #[.pointer (some ⟨g, 0, none⟩), .int .i64 r] w fun e w' => e = .returned (.agg #[.int .i64 1, .string m.f0, .string m.f1, .string m.f2, .int .i64 r, .string ⟨#[]⟩, .string ⟨#[]⟩, .string ⟨#[]⟩, .string ⟨#[]⟩, .string ⟨#[]⟩, .int .i64 0, .string ⟨#[]⟩]) ∧ Below w.heap.size w w' := by
  have HC := Aside0.mk (fun W => Q43.gen_Reg.calls m.f0 m.f1 m.f2 r 1 m.f0 m.f1 m.f2 r ⟨#[]⟩ ⟨#[]⟩ ⟨#[]⟩ ⟨#[]⟩ ⟨#[]⟩ 0 ⟨#[]⟩ W rfl)
  have HZ0 := Aside0.mk (World.alloc_heap_new w (Obj.cells #[.int .i64 0, .string ⟨#[]⟩, .string ⟨#[]⟩, .string ⟨#[]⟩, .int .i64 0, .string ⟨#[]⟩, .string ⟨#[]⟩, .string ⟨#[]⟩, .string ⟨#[]⟩, .string ⟨#[]⟩, .int .i64 0, .string ⟨#[]⟩] 50))
  have HB0 := Aside0.mk (below_alloc (Below.refl w.heap.size w) (Obj.cells #[.int .i64 0, .string ⟨#[]⟩, .string ⟨#[]⟩, .string ⟨#[]⟩, .int .i64 0, .string ⟨#[]⟩, .string ⟨#[]⟩, .string ⟨#[]⟩, .string ⟨#[]⟩, .string ⟨#[]⟩, .int .i64 0, .string ⟨#[]⟩] 50))
  have hb := blk_below hm (below_alloc (Below.refl w.heap.size w) (Obj.cells #[.int .i64 0, .string ⟨#[]⟩, .string ⟨#[]⟩, .string ⟨#[]⟩, .int .i64 0, .string ⟨#[]⟩, .string ⟨#[]⟩, .string ⟨#[]⟩, .string ⟨#[]⟩, .string ⟨#[]⟩, .int .i64 0, .string ⟨#[]⟩] 50))
  obtain ⟨e5, e6, e7⟩ : (w.alloc (Obj.cells #[.int .i64 0, .string ⟨#[]⟩, .string ⟨#[]⟩, .string ⟨#[]⟩, .int .i64 0, .string ⟨#[]⟩, .string ⟨#[]⟩, .string ⟨#[]⟩, .string ⟨#[]⟩, .string ⟨#[]⟩, .int .i64 0, .string ⟨#[]⟩] 50)).cell? ⟨g, 5, none⟩ = some (.string m.f0) ∧ (w.alloc (Obj.cells #[.int .i64 0, .string ⟨#[]⟩, .string ⟨#[]⟩, .string ⟨#[]⟩, .int .i64 0, .string ⟨#[]⟩, .string ⟨#[]⟩, .string ⟨#[]⟩, .string ⟨#[]⟩, .string ⟨#[]⟩, .int .i64 0, .string ⟨#[]⟩] 50)).cell? ⟨g, 6, none⟩ = some (.string m.f1) ∧ (w.alloc (Obj.cells #[.int .i64 0, .string ⟨#[]⟩, .string ⟨#[]⟩, .string ⟨#[]⟩, .int .i64 0, .string ⟨#[]⟩, .string ⟨#[]⟩, .string ⟨#[]⟩, .string ⟨#[]⟩, .string ⟨#[]⟩, .int .i64 0, .string ⟨#[]⟩] 50)).cell? ⟨g, 7, none⟩ = some (.string m.f2) := ⟨blk_cell hb 5, blk_cell hb 6, blk_cell hb 7⟩
  clear hm hb
  go_enter Try.func38, Try.ntmps38
  go_wp2_with fail
  refine (HC.out _).mono ?_
  rintro e w1 ⟨rfl, hb⟩
  have HZ := Aside0.mk (blk_below HZ0.out hb)
  have HB := Aside0.mk (below_step HB0.out hb)
  clear hb e5 e6 e7
  obtain ⟨z0, z1, z2, z3, z4, z5, z6, z7, z8, z9, z10, z11⟩ := cells12 HZ.out
  have zf := blk_frozen HZ.out
  go_wp2_with fail
  exact bodyPost_ret (results_cell_row rfl _ _ w.heap.size 50 #[.int .i64 1, .string m.f0, .string m.f1, .string m.f2, .int .i64 r, .string ⟨#[]⟩, .string ⟨#[]⟩, .string ⟨#[]⟩, .string ⟨#[]⟩, .string ⟨#[]⟩, .int .i64 0, .string ⟨#[]⟩] (0, 0) _ rfl (set12_own HZ.out _ _ _ _ _ _ _ _ _ _ _ _) Try.underlying50 rfl (by kernel_rfl)) rfl ⟨rfl, set12_below HB.out (Nat.le_refl _) _ _ _ _ _ _ _ _ _ _ _ _⟩
set_option maxHeartbeats 16000000 in
theorem maker_flows (base g : Nat) (a0 a1 a2 a3 a4 : Value) (m : S25) (pc : Int) (b0 b1 b2 b3 b4 b5 b6 b7 b8 : Value) (v : Value) (l : List S60) (pt fr : S50) (cls : ByteArray) (w : World) (hm : MkOwn w base g a0 a1 a2 a3 a4 m pc b0 b1 b2 b3 b4 b5 b6 b7 b8 v l) (hl : l.length ≤ 1048576) (hbz : base ≤ w.heap.size) :
    Calls Try.prog 37 #[.pointer (some ⟨g, 0, none⟩), .agg #[.int .i64 pt.f0, .string pt.f1.f0, .string pt.f1.f1, .string pt.f1.f2, .int .i64 pt.f2, .string pt.f3.f0, .string pt.f3.f1, .string pt.f4.f0.f0, .string pt.f4.f0.f1, .string pt.f4.f0.f2, .int .i64 pt.f4.f1, .string pt.f4.f2], .agg #[.int .i64 fr.f0, .string fr.f1.f0, .string fr.f1.f1, .string fr.f1.f2, .int .i64 fr.f2, .string fr.f3.f0, .string fr.f3.f1, .string fr.f4.f0.f0, .string fr.f4.f0.f1, .string fr.f4.f0.f2, .int .i64 fr.f4.f1, .string fr.f4.f2], .string cls] w fun e w' => ∃ v', e = .returned (.tuple #[]) ∧ MkOwn w' base g a0 a1 a2 a3 a4 m pc b0 b1 b2 b3 b4 b5 b6 b7 b8 v' (l ++ [(⟨2, pc, pt, fr, ⟨m, 0, ⟨#[]⟩⟩, z44, cls, z25, []⟩ : S60)]) ∧ Below base w w' ∧ Kp w w' g v v' := by
  have hab := below_alloc (below_alloc (Below.refl w.heap.size w) (Obj.cells #[.int .i64 pt.f0, .string pt.f1.f0, .string pt.f1.f1, .string pt.f1.f2, .int .i64 pt.f2, .string pt.f3.f0, .string pt.f3.f1, .string pt.f4.f0.f0, .string pt.f4.f0.f1, .string pt.f4.f0.f2, .int .i64 pt.f4.f1, .string pt.f4.f2] 50)) (Obj.cells #[.int .i64 fr.f0, .string fr.f1.f0, .string fr.f1.f1, .string fr.f1.f2, .int .i64 fr.f2, .string fr.f3.f0, .string fr.f3.f1, .string fr.f4.f0.f0, .string fr.f4.f0.f1, .string fr.f4.f0.f2, .int .i64 fr.f4.f1, .string fr.f4.f2] 50)
  have HP := Aside0.mk (put_plain base g a0 a1 a2 a3 a4 m pc b0 b1 b2 b3 b4 b5 b6 b7 b8 v l (⟨2, 0, pt, fr, z46, z44, cls, z25, []⟩ : S60) ((w.alloc (Obj.cells #[.int .i64 pt.f0, .string pt.f1.f0, .string pt.f1.f1, .string pt.f1.f2, .int .i64 pt.f2, .string pt.f3.f0, .string pt.f3.f1, .string pt.f4.f0.f0, .string pt.f4.f0.f1, .string pt.f4.f0.f2, .int .i64 pt.f4.f1, .string pt.f4.f2] 50)).alloc (Obj.cells #[.int .i64 fr.f0, .string fr.f1.f0, .string fr.f1.f1, .string fr.f1.f2, .int .i64 fr.f2, .string fr.f3.f0, .string fr.f3.f1, .string fr.f4.f0.f0, .string fr.f4.f0.f1, .string fr.f4.f0.f2, .int .i64 fr.f4.f1, .string fr.f4.f2] 50)) (hm.below hab hbz) (show (2 : Int) ≠ 1 by decide) rfl hl (Nat.le_trans hbz hab.size))
  have HB := Aside0.mk (hab.mono hbz)
  have HA := Aside0.mk hab
  clear hm hab
  go_enter Try.func37, Try.ntmps37
  go_wp2_with fail
  refine HP.out.mono ?_
  rintro e w2 ⟨v2, rfl, hm2, hb2, hk2⟩
  have HM2 := Aside0.mk hm2
  have HB2 := Aside0.mk (HB.out.trans hb2)
  have HK2 := Aside0.mk (Kp.pre HA.out hk2)
  clear hm2 hb2 hk2
  go_wp2_with fail
  exact bodyPost_end (v := .tuple #[]) (by simp [results, Try.results37, go_sem]) rfl (by first | exact ⟨rfl, ⟨_, HM2.out, HB2.out, HK2.out⟩⟩ | exact ⟨_, rfl, HM2.out, HB2.out, HK2.out⟩)
set_option maxHeartbeats 16000000 in
theorem maker_begins (base g : Nat) (a0 a1 a2 a3 a4 : Value) (m : S25) (pc : Int) (b0 b1 b2 b3 b4 b5 b6 b7 b8 : Value) (v : Value) (l : List S60) (cls : ByteArray) (w : World) (hm : MkOwn w base g a0 a1 a2 a3 a4 m pc b0 b1 b2 b3 b4 b5 b6 b7 b8 v l) (hl : l.length ≤ 1048576) (hbz : base ≤ w.heap.size) :
    Calls Try.prog 69 #[.pointer (some ⟨g, 0, none⟩), .string cls] w fun e w' => ∃ v', e = .returned (.tuple #[]) ∧ MkOwn w' base g a0 a1 a2 a3 a4 m pc b0 b1 b2 b3 b4 b5 b6 b7 b8 v' (l ++ [(⟨7, pc, z50, z50, ⟨m, 0, ⟨#[]⟩⟩, z44, cls, z25, []⟩ : S60)]) ∧ Below base w w' ∧ Kp w w' g v v' := by
  have HP := Aside0.mk (put_plain base g a0 a1 a2 a3 a4 m pc b0 b1 b2 b3 b4 b5 b6 b7 b8 v l (⟨7, 0, z50, z50, z46, z44, cls, z25, []⟩ : S60) w hm (show (7 : Int) ≠ 1 by decide) rfl hl hbz)
  clear hm
  go_enter Try.func69, Try.ntmps69
  go_wp2_with fail
  refine HP.out.mono ?_
  rintro e w2 ⟨v2, rfl, hm2, hb2, hk2⟩
  have HM2 := Aside0.mk hm2
  have HB2 := Aside0.mk hb2
  have HK2 := Aside0.mk hk2
  clear hm2 hb2 hk2
  go_wp2_with fail
  exact bodyPost_end (v := .tuple #[]) (by simp [results, Try.results69, go_sem]) rfl (by first | exact ⟨rfl, ⟨_, HM2.out, HB2.out, HK2.out⟩⟩ | exact ⟨_, rfl, HM2.out, HB2.out, HK2.out⟩)
set_option maxHeartbeats 16000000 in
theorem maker_fresh (base g : Nat) (a0 a1 a2 a3 a4 : Value) (m : S25) (pc : Int) (b0 b1 b2 b3 b4 b5 b6 b7 b8 : Value) (v : Value) (l : List S60) (ia : Int) (cls : ByteArray) (w : World) (hm : MkOwn w base g a0 a1 a2 a3 a4 m pc b0 (.int .i64 ia) b2 b3 b4 b5 b6 b7 b8 v l) (hl : l.length ≤ 1048576) (hbz : base ≤ w.heap.size) :
    Calls Try.prog 70 #[.pointer (some ⟨g, 0, none⟩), .string cls] w fun e w' => ∃ v', e = .returned (.tuple #[]) ∧ MkOwn w' base g a0 a1 a2 a3 a4 m pc b0 (.int .i64 ia) b2 b3 b4 b5 b6 b7 b8 v' (l ++ [(⟨1, pc, (⟨1, m, ia, z44, z46⟩ : S50), z50, ⟨m, pc, cls⟩, z44, ⟨#[]⟩, z25, []⟩ : S60)]) ∧ Below base w w' ∧ Kp w w' g v v' := by
  have HR := Aside0.mk (maker_reg g a0 a1 a2 a3 a4 m pc b0 (.int .i64 ia) b2 b3 b4 b5 b6 b7 b8 v ia w hm.b)
  have e10 : w.cell? ⟨g, 10, none⟩ = some (.int .i64 ia) := blk_cell hm.b 10
  have HM := Aside0.mk hm
  have HP := Aside0.mk (fun W (hb : Below w.heap.size w W) => put_has base g a0 a1 a2 a3 a4 m pc b0 (.int .i64 ia) b2 b3 b4 b5 b6 b7 b8 v l (⟨1, 0, (⟨1, m, ia, z44, z46⟩ : S50), z50, ⟨z25, 0, cls⟩, z44, ⟨#[]⟩, z25, []⟩ : S60) W (hm.below hb hbz) rfl rfl hl (Nat.le_trans hbz hb.size))
  clear hm
  go_enter Try.func70, Try.ntmps70
  go_wp2_with fail
  refine HR.out.mono ?_
  rintro e w1 ⟨rfl, hb⟩
  have HB := Aside0.mk hb
  clear hb
  go_wp2_with fail
  refine (HP.out w1 HB.out).mono ?_
  rintro e w2 ⟨v2, rfl, hm2, hb2, hk2⟩
  have HM2 := Aside0.mk hm2
  have HB2 := Aside0.mk ((HB.out.mono hbz).trans hb2)
  have HK2 := Aside0.mk (Kp.pre HB.out hk2)
  clear hm2 hb2 hk2
  go_wp2_with fail
  exact bodyPost_end (v := .tuple #[]) (by simp [results, Try.results70, go_sem]) rfl (by first | exact ⟨rfl, ⟨_, HM2.out, HB2.out, HK2.out⟩⟩ | exact ⟨_, rfl, HM2.out, HB2.out, HK2.out⟩)
end Go.Proofs.Ytfplcohjnlbfjaa.Hand
end

section
namespace Go.Proofs.Ytfplcohjnlbfjaa.Hand
open Go.RowKit Go.Proofs.YtfplcohjnlbfjaaW.PrintWords Go.Proofs.YtfplcohjnlbfjaaW.PrintLast Go.Proofs.YtfplcohjnlbfjaaW.PrintMore
set_option linter.unusedVariables false
set_option linter.unusedSimpArgs false
set_option maxRecDepth 20000
set_option maxHeartbeats 32000000 in
theorem instr_new (base g : Nat) (a0 a1 a2 a3 a4 : Value) (m : S25) (pc : Int) (ia ib ic id : Int) (s5 s6 s7 : ByteArray) (A8 : Option Addr) (n8 c8 : Nat) (v : Value) (l : List S60) (w : World) (hm : MkOwn w base g a0 a1 a2 a3 a4 m pc (.int .i64 9) (.int .i64 ia) (.int .i64 ib) (.int .i64 ic) (.int .i64 id) (.string s5) (.string s6) (.string s7) (.slice A8 n8 c8) v l) (hl : l.length + 2 ≤ 1048576) (hbz : base ≤ w.heap.size) :
    Calls Try.prog 46 #[.pointer (some ⟨g, 0, none⟩)] w fun e w' => ∃ v', e = .returned (.tuple #[]) ∧ MkOwn w' base g a0 a1 a2 a3 a4 m pc (.int .i64 9) (.int .i64 ia) (.int .i64 ib) (.int .i64 ic) (.int .i64 id) (.string s5) (.string s6) (.string s7) (.slice A8 n8 c8) v' (l ++ [(⟨7, pc, z50, z50, ⟨m, 0, ⟨#[]⟩⟩, z44, s5, z25, []⟩ : S60)] ++ [(⟨1, pc, (⟨1, m, ia, z44, z46⟩ : S50), z50, ⟨m, pc, s5⟩, z44, ⟨#[]⟩, z25, []⟩ : S60)]) ∧ Below base w w' ∧ Kp w w' g v v' := by
  have hab := below_alloc (Below.refl w.heap.size w) (Obj.cells #[.int .i64 9, .int .i64 ia, .int .i64 ib, .int .i64 ic, .int .i64 id, .string s5, .string s6, .string s7, .slice A8 n8 c8] 74)
  have HA := Aside0.mk hab
  have HM0 := Aside0.mk (hm.below hab hbz)
  have HZ0 : Aside0 ((w.alloc (Obj.cells #[.int .i64 9, .int .i64 ia, .int .i64 ib, .int .i64 ic, .int .i64 id, .string s5, .string s6, .string s7, .slice A8 n8 c8] 74)).heap[w.heap.size]? = some (Obj.cells #[.int .i64 9, .int .i64 ia, .int .i64 ib, .int .i64 ic, .int .i64 id, .string s5, .string s6, .string s7, .slice A8 n8 c8] 74 (0, 0))) := ⟨World.alloc_heap_new w _⟩
  have HNg : Aside0 (w.heap.size ≠ g) := ⟨Nat.ne_of_gt (blk_lt hm.b)⟩
  have HNv : Aside0 (some w.heap.size ≠ v.ownBlock) := ⟨fun e => by have := Kd.R_lt hm.r _ e.symm; omega⟩
  have HBz := Aside0.mk hbz
  have HL := Aside0.mk hl
  obtain ⟨e9, e10, e11, e12, e13, e14, e15, e16, e17⟩ : w.cell? ⟨g, 9, none⟩ = some (.int .i64 9) ∧ w.cell? ⟨g, 10, none⟩ = some (.int .i64 ia) ∧ w.cell? ⟨g, 11, none⟩ = some (.int .i64 ib) ∧ w.cell? ⟨g, 12, none⟩ = some (.int .i64 ic) ∧ w.cell? ⟨g, 13, none⟩ = some (.int .i64 id) ∧ w.cell? ⟨g, 14, none⟩ = some (.string s5) ∧ w.cell? ⟨g, 15, none⟩ = some (.string s6) ∧ w.cell? ⟨g, 16, none⟩ = some (.string s7) ∧ w.cell? ⟨g, 17, none⟩ = some (.slice A8 n8 c8) := ⟨blk_cell hm.b 9, blk_cell hm.b 10, blk_cell hm.b 11, blk_cell hm.b 12, blk_cell hm.b 13, blk_cell hm.b 14, blk_cell hm.b 15, blk_cell hm.b 16, blk_cell hm.b 17⟩
  clear hm hab hbz hl
  go_enter Try.func46, Try.ntmps46
  go_wp2_with fail
  refine (maker_begins base g a0 a1 a2 a3 a4 m pc (.int .i64 9) (.int .i64 ia) (.int .i64 ib) (.int .i64 ic) (.int .i64 id) (.string s5) (.string s6) (.string s7) (.slice A8 n8 c8) v l s5 (w.alloc (Obj.cells #[.int .i64 9, .int .i64 ia, .int .i64 ib, .int .i64 ic, .int .i64 id, .string s5, .string s6, .string s7, .slice A8 n8 c8] 74)) HM0.out (by have := HL.out; omega) (Nat.le_trans HBz.out HA.out.size)).mono ?_
  rintro e w1 ⟨v1, rfl, hm1, hb1, hk1⟩
  have HM1 := Aside0.mk hm1
  have HB1 := Aside0.mk ((HA.out.mono HBz.out).trans hb1)
  have HK1 := Aside0.mk (Kp.pre HA.out hk1)
  have HZ1 := Aside0.mk (hk1.blk HZ0.out HNg.out HNv.out)
  have HS1 := Aside0.mk (Nat.le_trans (Nat.le_trans HBz.out HA.out.size) hk1.1.1)
  clear hm1 hb1 hk1 e9 e10 e11 e12 e13 e14 e15 e16 e17
  have z5 : w1.cell? ⟨w.heap.size, 5, none⟩ = some (.string s5) := blk_cell HZ1.out 5
  go_wp2_with fail
  refine (maker_fresh base g a0 a1 a2 a3 a4 m pc (.int .i64 9) (.int .i64 ia) (.int .i64 ib) (.int .i64 ic) (.int .i64 id) (.string s5) (.string s6) (.string s7) (.slice A8 n8 c8) v1 (l ++ [(⟨7, pc, z50, z50, ⟨m, 0, ⟨#[]⟩⟩, z44, s5, z25, []⟩ : S60)]) ia s5 w1 HM1.out (by have := HL.out; rw [List.length_append]; show l.length + 1 ≤ _; omega) HS1.out).mono ?_
  rintro e w2 ⟨v2, rfl, hm2, hb2, hk2⟩
  have HM2 := Aside0.mk hm2
  have HB2 := Aside0.mk (HB1.out.trans hb2)
  have HK2 := Aside0.mk (HK1.out.trans hk2)
  clear hm2 hb2 hk2 z5
  go_wp2_with fail
  exact bodyPost_end (v := .tuple #[]) (by simp [results, Try.results46, go_sem]) rfl (by first | exact ⟨rfl, ⟨_, HM2.out, HB2.out, HK2.out⟩⟩ | exact ⟨_, rfl, HM2.out, HB2.out, HK2.out⟩)
set_option maxHeartbeats 32000000 in
theorem instr_end (base g : Nat) (a0 a1 a2 a3 a4 : Value) (m : S25) (pc : Int) (ia ib ic id : Int) (s5 s6 s7 : ByteArray) (A8 : Option Addr) (n8 c8 : Nat) (v : Value) (l : List S60) (w : World) (hm : MkOwn w base g a0 a1 a2 a3 a4 m pc (.int .i64 23) (.int .i64 ia) (.int .i64 ib) (.int .i64 ic) (.int .i64 id) (.string s5) (.string s6) (.string s7) (.slice A8 n8 c8) v l) (hl : l.length + 2 ≤ 1048576) (hbz : base ≤ w.heap.size) :
    Calls Try.prog 46 #[.pointer (some ⟨g, 0, none⟩)] w fun e w' => ∃ v', e = .returned (.tuple #[]) ∧ MkOwn w' base g a0 a1 a2 a3 a4 m pc (.int .i64 23) (.int .i64 ia) (.int .i64 ib) (.int .i64 ic) (.int .i64 id) (.string s5) (.string s6) (.string s7) (.slice A8 n8 c8) v' (l) ∧ Below base w w' ∧ Kp w w' g v v' := by
  have hab := below_alloc (Below.refl w.heap.size w) (Obj.cells #[.int .i64 23, .int .i64 ia, .int .i64 ib, .int .i64 ic, .int .i64 id, .string s5, .string s6, .string s7, .slice A8 n8 c8] 74)
  have HA := Aside0.mk hab
  have HM0 := Aside0.mk (hm.below hab hbz)
  have HZ0 : Aside0 ((w.alloc (Obj.cells #[.int .i64 23, .int .i64 ia, .int .i64 ib, .int .i64 ic, .int .i64 id, .string s5, .string s6, .string s7, .slice A8 n8 c8] 74)).heap[w.heap.size]? = some (Obj.cells #[.int .i64 23, .int .i64 ia, .int .i64 ib, .int .i64 ic, .int .i64 id, .string s5, .string s6, .string s7, .slice A8 n8 c8] 74 (0, 0))) := ⟨World.alloc_heap_new w _⟩
  have HNg : Aside0 (w.heap.size ≠ g) := ⟨Nat.ne_of_gt (blk_lt hm.b)⟩
  have HNv : Aside0 (some w.heap.size ≠ v.ownBlock) := ⟨fun e => by have := Kd.R_lt hm.r _ e.symm; omega⟩
  have HBz := Aside0.mk hbz
  have HL := Aside0.mk hl
  obtain ⟨e9, e10, e11, e12, e13, e14, e15, e16, e17⟩ : w.cell? ⟨g, 9, none⟩ = some (.int .i64 23) ∧ w.cell? ⟨g, 10, none⟩ = some (.int .i64 ia) ∧ w.cell? ⟨g, 11, none⟩ = some (.int .i64 ib) ∧ w.cell? ⟨g, 12, none⟩ = some (.int .i64 ic) ∧ w.cell? ⟨g, 13, none⟩ = some (.int .i64 id) ∧ w.cell? ⟨g, 14, none⟩ = some (.string s5) ∧ w.cell? ⟨g, 15, none⟩ = some (.string s6) ∧ w.cell? ⟨g, 16, none⟩ = some (.string s7) ∧ w.cell? ⟨g, 17, none⟩ = some (.slice A8 n8 c8) := ⟨blk_cell hm.b 9, blk_cell hm.b 10, blk_cell hm.b 11, blk_cell hm.b 12, blk_cell hm.b 13, blk_cell hm.b 14, blk_cell hm.b 15, blk_cell hm.b 16, blk_cell hm.b 17⟩
  clear hm hab hbz hl
  go_enter Try.func46, Try.ntmps46
  go_wp2_with fail
  have HM2 := HM0
  have HB2 := Aside0.mk (HA.out.mono HBz.out)
  have HK2 : Aside0 (Kp w (w.alloc (Obj.cells #[.int .i64 23, .int .i64 ia, .int .i64 ib, .int .i64 ic, .int .i64 id, .string s5, .string s6, .string s7, .slice A8 n8 c8] 74)) g v v) := ⟨⟨⟨HA.out.size, fun i hi _ _ => HA.out.block i hi⟩, .inl rfl⟩⟩
  exact bodyPost_end (v := .tuple #[]) (by simp [results, Try.results46, go_sem]) rfl (by first | exact ⟨rfl, ⟨_, HM2.out, HB2.out, HK2.out⟩⟩ | exact ⟨_, rfl, HM2.out, HB2.out, HK2.out⟩)
set_option maxHeartbeats 32000000 in
theorem instr_cast (base g : Nat) (a0 a1 a2 a3 a4 : Value) (m : S25) (pc : Int) (ia ib ic id : Int) (s5 s6 s7 : ByteArray) (A8 : Option Addr) (n8 c8 : Nat) (v : Value) (l : List S60) (w : World) (hm : MkOwn w base g a0 a1 a2 a3 a4 m pc (.int .i64 25) (.int .i64 ia) (.int .i64 ib) (.int .i64 ic) (.int .i64 id) (.string s5) (.string s6) (.string s7) (.slice A8 n8 c8) v l) (hl : l.length + 2 ≤ 1048576) (hbz : base ≤ w.heap.size) :
    Calls Try.prog 46 #[.pointer (some ⟨g, 0, none⟩)] w fun e w' => ∃ v', e = .returned (.tuple #[]) ∧ MkOwn w' base g a0 a1 a2 a3 a4 m pc (.int .i64 25) (.int .i64 ia) (.int .i64 ib) (.int .i64 ic) (.int .i64 id) (.string s5) (.string s6) (.string s7) (.slice A8 n8 c8) v' (l ++ [(⟨2, pc, (⟨1, m, ia, z44, z46⟩ : S50), (⟨1, m, ib, z44, z46⟩ : S50), ⟨m, 0, ⟨#[]⟩⟩, z44, s5, z25, []⟩ : S60)]) ∧ Below base w w' ∧ Kp w w' g v v' := by
  have hab := below_alloc (Below.refl w.heap.size w) (Obj.cells #[.int .i64 25, .int .i64 ia, .int .i64 ib, .int .i64 ic, .int .i64 id, .string s5, .string s6, .string s7, .slice A8 n8 c8] 74)
  have HA := Aside0.mk hab
  have HM0 := Aside0.mk (hm.below hab hbz)
  have HZ0 : Aside0 ((w.alloc (Obj.cells #[.int .i64 25, .int .i64 ia, .int .i64 ib, .int .i64 ic, .int .i64 id, .string s5, .string s6, .string s7, .slice A8 n8 c8] 74)).heap[w.heap.size]? = some (Obj.cells #[.int .i64 25, .int .i64 ia, .int .i64 ib, .int .i64 ic, .int .i64 id, .string s5, .string s6, .string s7, .slice A8 n8 c8] 74 (0, 0))) := ⟨World.alloc_heap_new w _⟩
  have HNg : Aside0 (w.heap.size ≠ g) := ⟨Nat.ne_of_gt (blk_lt hm.b)⟩
  have HNv : Aside0 (some w.heap.size ≠ v.ownBlock) := ⟨fun e => by have := Kd.R_lt hm.r _ e.symm; omega⟩
  have HBz := Aside0.mk hbz
  have HL := Aside0.mk hl
  obtain ⟨e9, e10, e11, e12, e13, e14, e15, e16, e17⟩ : w.cell? ⟨g, 9, none⟩ = some (.int .i64 25) ∧ w.cell? ⟨g, 10, none⟩ = some (.int .i64 ia) ∧ w.cell? ⟨g, 11, none⟩ = some (.int .i64 ib) ∧ w.cell? ⟨g, 12, none⟩ = some (.int .i64 ic) ∧ w.cell? ⟨g, 13, none⟩ = some (.int .i64 id) ∧ w.cell? ⟨g, 14, none⟩ = some (.string s5) ∧ w.cell? ⟨g, 15, none⟩ = some (.string s6) ∧ w.cell? ⟨g, 16, none⟩ = some (.string s7) ∧ w.cell? ⟨g, 17, none⟩ = some (.slice A8 n8 c8) := ⟨blk_cell hm.b 9, blk_cell hm.b 10, blk_cell hm.b 11, blk_cell hm.b 12, blk_cell hm.b 13, blk_cell hm.b 14, blk_cell hm.b 15, blk_cell hm.b 16, blk_cell hm.b 17⟩
  clear hm hab hbz hl
  go_enter Try.func46, Try.ntmps46
  go_wp2_with fail
  clear e9 e10 e11 e12 e13 e14 e15 e16 e17
  have HBX : Aside0 (Below w.heap.size w (w.alloc (Obj.cells #[.int .i64 25, .int .i64 ia, .int .i64 ib, .int .i64 ic, .int .i64 id, .string s5, .string s6, .string s7, .slice A8 n8 c8] 74)).drew) := ⟨below_drew1 HA.out⟩
  have HMX : Aside0 (MkOwn (w.alloc (Obj.cells #[.int .i64 25, .int .i64 ia, .int .i64 ib, .int .i64 ic, .int .i64 id, .string s5, .string s6, .string s7, .slice A8 n8 c8] 74)).drew base g a0 a1 a2 a3 a4 m pc (.int .i64 25) (.int .i64 ia) (.int .i64 ib) (.int .i64 ic) (.int .i64 id) (.string s5) (.string s6) (.string s7) (.slice A8 n8 c8) v l) := ⟨HM0.out.below (below_drew1 (Below.refl _ _)) (Nat.le_trans HBz.out HA.out.size)⟩
  have HSX : Aside0 (base ≤ (w.alloc (Obj.cells #[.int .i64 25, .int .i64 ia, .int .i64 ib, .int .i64 ic, .int .i64 id, .string s5, .string s6, .string s7, .slice A8 n8 c8] 74)).drew.heap.size) := ⟨Nat.le_trans HBz.out HBX.out.size⟩
  have z1 : (w.alloc (Obj.cells #[.int .i64 25, .int .i64 ia, .int .i64 ib, .int .i64 ic, .int .i64 id, .string s5, .string s6, .string s7, .slice A8 n8 c8] 74)).drew.cell? ⟨w.heap.size, 1, none⟩ = some (.int .i64 ia) := blk_cell HZ0.out 1
  have z2 : (w.alloc (Obj.cells #[.int .i64 25, .int .i64 ia, .int .i64 ib, .int .i64 ic, .int .i64 id, .string s5, .string s6, .string s7, .slice A8 n8 c8] 74)).drew.cell? ⟨w.heap.size, 2, none⟩ = some (.int .i64 ib) := blk_cell HZ0.out 2
  have z5 : (w.alloc (Obj.cells #[.int .i64 25, .int .i64 ia, .int .i64 ib, .int .i64 ic, .int .i64 id, .string s5, .string s6, .string s7, .slice A8 n8 c8] 74)).drew.cell? ⟨w.heap.size, 5, none⟩ = some (.string s5) := blk_cell HZ0.out 5
  refine start_ (n := 12) (S := fun w' => w'.cell? ⟨w.heap.size, 1, none⟩ = some (.int .i64 ia) ∧ w'.cell? ⟨w.heap.size, 2, none⟩ = some (.int .i64 ib) ∧ w'.cell? ⟨w.heap.size, 5, none⟩ = some (.string s5)) (ds := [11]) #[false, false, false, false, false, false, false, false, false, false, false, false] (by kernel_rfl) rfl rfl ⟨z1, z2, z5⟩ (fun hHeld => ?_)
  generalize (w.alloc (Obj.cells #[.int .i64 25, .int .i64 ia, .int .i64 ib, .int .i64 ic, .int .i64 id, .string s5, .string s6, .string s7, .slice A8 n8 c8] 74)).drew = X at HMX HSX HBX z1 z2 z5 hHeld ⊢
  refine pure_ (i := 0) (N := some 23) (v := ?_) (a' := ?_) #[true, false, false, false, false, false, false, false, false, false, false, false] rfl rfl (by kernel_rfl) (fun _ _ _ h => h) (Or.inl ⟨by rfl, ?_⟩) ?_ ?_
  rotate_left
  · intro w'
    go_simp
    with_reducible rfl
  rotate_left
  · simp only [Act.put, List.setIfInBounds_toArray, List.set_cons_zero, List.set_cons_succ, i64_w, i32_w]
    rfl
  refine pure_ (i := 1) (N := some 24) (v := ?_) (a' := ?_) #[true, true, false, false, false, false, false, false, false, false, false, false] rfl rfl (by kernel_rfl) (fun _ _ _ h => h) (Or.inl ⟨by rfl, ?_⟩) ?_ ?_
  rotate_left
  · intro w'
    go_simp
    with_reducible rfl
  rotate_left
  · simp only [Act.put, List.setIfInBounds_toArray, List.set_cons_zero, List.set_cons_succ, i64_w, i32_w]
    rfl
  refine pure_ (i := 2) (N := some 25) (v := ?_) (a' := ?_) #[true, true, true, false, false, false, false, false, false, false, false, false] rfl rfl (by kernel_rfl) (fun _ _ _ h => h) (Or.inl ⟨by rfl, ?_⟩) ?_ ?_
  rotate_left
  · intro w'
    go_simp
    with_reducible rfl
  rotate_left
  · simp only [Act.put, List.setIfInBounds_toArray, List.set_cons_zero, List.set_cons_succ, i64_w, i32_w]
    rfl
  refine pure_ (i := 5) (N := some 28) (v := ?_) (a' := ?_) #[true, true, true, false, false, true, false, false, false, false, false, false] rfl rfl (by kernel_rfl) (fun _ _ _ h => h) (Or.inl ⟨by rfl, ?_⟩) ?_ ?_
  rotate_left
  · intro w'
    go_simp
    with_reducible rfl
  rotate_left
  · simp only [Act.put, List.setIfInBounds_toArray, List.set_cons_zero, List.set_cons_succ, i64_w, i32_w]
    rfl
  refine pure_ (i := 6) (N := some 29) (v := ?_) (a' := ?_) #[true, true, true, false, false, true, true, false, false, false, false, false] rfl rfl (by kernel_rfl) (fun _ _ _ h => h) (Or.inl ⟨by rfl, ?_⟩) ?_ ?_
  rotate_left
  · intro w'
    go_simp
    with_reducible rfl
  rotate_left
  · simp only [Act.put, List.setIfInBounds_toArray, List.set_cons_zero, List.set_cons_succ, i64_w, i32_w]
    rfl
  refine pure_ (i := 9) (N := some 32) (v := ?_) (a' := ?_) #[true, true, true, false, false, true, true, false, false, true, false, false] rfl rfl (by kernel_rfl) (fun _ _ _ h => h) (Or.inl ⟨by rfl, ?_⟩) ?_ ?_
  rotate_left
  · intro w'
    go_simp
    with_reducible rfl
  rotate_left
  · simp only [Act.put, List.setIfInBounds_toArray, List.set_cons_zero, List.set_cons_succ, i64_w, i32_w]
    rfl
  refine take_ (i := 3) (N := some 26) (v := ?_) (a' := ?_) #[true, true, true, true, false, true, true, false, false, true, false, false] rfl rfl (by kernel_rfl) (fun _ _ _ h => h) (Or.inl ⟨by rfl, ?_⟩) hHeld ?_ ?_
  rotate_left
  · rintro w' ⟨s0, s1, s2⟩
    go_simp
    with_reducible rfl
  rotate_left
  · simp only [Act.put, List.setIfInBounds_toArray, List.set_cons_zero, List.set_cons_succ, i64_w, i32_w]
    rfl
  refine take_ (i := 7) (N := some 30) (v := ?_) (a' := ?_) #[true, true, true, true, false, true, true, true, false, true, false, false] rfl rfl (by kernel_rfl) (fun _ _ _ h => h) (Or.inl ⟨by rfl, ?_⟩) hHeld ?_ ?_
  rotate_left
  · rintro w' ⟨s0, s1, s2⟩
    go_simp
    with_reducible rfl
  rotate_left
  · simp only [Act.put, List.setIfInBounds_toArray, List.set_cons_zero, List.set_cons_succ, i64_w, i32_w]
    rfl
  refine take_ (i := 10) (N := some 33) (v := ?_) (a' := ?_) #[true, true, true, true, false, true, true, true, false, true, true, false] rfl rfl (by kernel_rfl) (fun _ _ _ h => h) (Or.inl ⟨by rfl, ?_⟩) hHeld ?_ ?_
  rotate_left
  · rintro w' ⟨s0, s1, s2⟩
    go_simp
    with_reducible rfl
  rotate_left
  · simp only [Act.put, List.setIfInBounds_toArray, List.set_cons_zero, List.set_cons_succ, i64_w, i32_w]
    rfl
  refine one_ (i := 4) (N := some 27) #[true, true, true, true, true, true, true, true, false, true, true, false] rfl rfl (by kernel_rfl) (by decide) (fun K hK => ?_)
  refine goes_ Try.func38 (by kernel_rfl) rfl #[.pointer (some ⟨g, 0, none⟩), .int .i64 ia] (by rfl) rfl rfl (by (try simp only [List.map_toArray, List.map_cons, List.map_nil]); first | done | rfl) ?_
  refine (maker_reg g a0 a1 a2 a3 a4 m pc (.int .i64 25) (.int .i64 ia) (.int .i64 ib) (.int .i64 ic) (.int .i64 id) (.string s5) (.string s6) (.string s7) (.slice A8 n8 c8) v ia X HMX.out.b).mono ?_
  rintro e w1 ⟨rfl, hb⟩
  refine ⟨_, rfl, ?_⟩
  have y1 := (hb.cell (World.block_lt_of_cell? _ _ z1)).trans z1
  have y2 := (hb.cell (World.block_lt_of_cell? _ _ z2)).trans z2
  have y5 := (hb.cell (World.block_lt_of_cell? _ _ z5)).trans z5
  have HM1 := Aside0.mk (HMX.out.below hb HSX.out)
  have HB1 := Aside0.mk hb
  clear hb
  refine hK.out _ _ ⟨y1, y2, y5⟩ (fun hHeld => ?_)
  clear hK K
  refine norm_ (a' := ?_) ?_ ?_
  rotate_left
  · show Act.put _ (some 27) _ = _
    simp only [Act.put, List.setIfInBounds_toArray, List.set_cons_zero, List.set_cons_succ, i64_w, i32_w]
    rfl
  refine one_ (i := 8) (N := some 31) #[true, true, true, true, true, true, true, true, true, true, true, false] rfl rfl (by kernel_rfl) (by decide) (fun K hK => ?_)
  refine goes_ Try.func38 (by kernel_rfl) rfl #[.pointer (some ⟨g, 0, none⟩), .int .i64 ib] (by rfl) rfl rfl (by (try simp only [List.map_toArray, List.map_cons, List.map_nil]); first | done | rfl) ?_
  refine (maker_reg g a0 a1 a2 a3 a4 m pc (.int .i64 25) (.int .i64 ia) (.int .i64 ib) (.int .i64 ic) (.int .i64 id) (.string s5) (.string s6) (.string s7) (.slice A8 n8 c8) v ib w1 HM1.out.b).mono ?_
  rintro e w2 ⟨rfl, hb⟩
  refine ⟨_, rfl, ?_⟩
  have x1 := (hb.cell (World.block_lt_of_cell? _ _ y1)).trans y1
  have x2 := (hb.cell (World.block_lt_of_cell? _ _ y2)).trans y2
  have x5 := (hb.cell (World.block_lt_of_cell? _ _ y5)).trans y5
  have HM2 := Aside0.mk (HM1.out.below hb (Nat.le_trans HSX.out HB1.out.size))
  have HB2 := Aside0.mk (below_step HB1.out hb)
  clear hb
  refine hK.out _ _ ⟨x1, x2, x5⟩ (fun hHeld => ?_)
  clear hK K
  refine norm_ (a' := ?_) ?_ ?_
  rotate_left
  · show Act.put _ (some 31) _ = _
    simp only [Act.put, List.setIfInBounds_toArray, List.set_cons_zero, List.set_cons_succ, i64_w, i32_w]
    rfl
  refine last_ (i := 11) (N := some 34) #[true, true, true, true, true, true, true, true, true, true, true, true] rfl rfl (by kernel_rfl) (by decide) (fun K hK => ?_)
  refine goes_ Try.func37 (by kernel_rfl) rfl #[.pointer (some ⟨g, 0, none⟩), .agg #[.int .i64 1, .string m.f0, .string m.f1, .string m.f2, .int .i64 ia, .string ⟨#[]⟩, .string ⟨#[]⟩, .string ⟨#[]⟩, .string ⟨#[]⟩, .string ⟨#[]⟩, .int .i64 0, .string ⟨#[]⟩], .agg #[.int .i64 1, .string m.f0, .string m.f1, .string m.f2, .int .i64 ib, .string ⟨#[]⟩, .string ⟨#[]⟩, .string ⟨#[]⟩, .string ⟨#[]⟩, .string ⟨#[]⟩, .int .i64 0, .string ⟨#[]⟩], .string s5] (by rfl) rfl rfl (by (try simp only [List.map_toArray, List.map_cons, List.map_nil]); first | done | rfl) ?_
  refine (maker_flows base g a0 a1 a2 a3 a4 m pc (.int .i64 25) (.int .i64 ia) (.int .i64 ib) (.int .i64 ic) (.int .i64 id) (.string s5) (.string s6) (.string s7) (.slice A8 n8 c8) v l (⟨1, m, ia, z44, z46⟩ : S50) (⟨1, m, ib, z44, z46⟩ : S50) s5 w2 HM2.out (by have := HL.out; omega) (Nat.le_trans HSX.out HB2.out.size)).mono ?_
  rintro e w3 ⟨v3, rfl, hm3, hb3, hk3⟩
  refine ⟨_, rfl, ?_⟩
  have HM3 := Aside0.mk hm3
  have HB3 := Aside0.mk ((HBX.out.mono HBz.out).trans ((HB2.out.mono HSX.out).trans hb3))
  have HK3 := Aside0.mk (Kp.pre HBX.out (Kp.pre HB2.out hk3))
  clear hm3 hb3 hk3
  refine hK.out _ _ ?_
  clear hK K
  refine norm_ (a' := ?_) ?_ ?_
  rotate_left
  · show Act.put _ (some 34) _ = _
    simp only [Act.put, List.setIfInBounds_toArray, List.set_cons_zero, List.set_cons_succ, i64_w, i32_w]
    rfl
  refine done_ (by kernel_rfl) ?_
  go_wp2_with fail
  exact bodyPost_end (v := .tuple #[]) (by simp [results, Try.results46, go_sem]) rfl (by first | exact ⟨rfl, ⟨_, HM3.out, HB3.out, HK3.out⟩⟩ | exact ⟨_, rfl, HM3.out, HB3.out, HK3.out⟩)
end Go.Proofs.Ytfplcohjnlbfjaa.Hand
end

section
namespace Go.Proofs.Ytfplcohjnlbfjaa.Hand
open Go.RowKit Go.Proofs.YtfplcohjnlbfjaaW.PrintWords Go.Proofs.YtfplcohjnlbfjaaW.PrintLast Go.Proofs.YtfplcohjnlbfjaaW.PrintMore
set_option linter.unusedVariables false
set_option linter.unusedSimpArgs false
set_option maxRecDepth 20000
def Puts (a0 a1 a2 a3 a4 : Value) (m : S25) (pc : Int) (x : S74) (ins : List S60) : Prop :=
  ∀ (g : Nat) (A8 : Option Addr) (c8 : Nat) (v : Value) (l : List S60) (W : World), MkOwn W g g a0 a1 a2 a3 a4 m pc (.int .i64 x.f0) (.int .i64 x.f1) (.int .i64 x.f2) (.int .i64 x.f3) (.int .i64 x.f4) (.string x.f5) (.string x.f6) (.string x.f7) (.slice A8 x.f8.length c8) v l → Kd.C (Kd.int .i64) W A8 x.f8.length x.f8 → x.f8.length ≤ c8 → l.length + 2 ≤ 1048576 → g ≤ W.heap.size →
    Calls Try.prog 46 #[.pointer (some ⟨g, 0, none⟩)] W fun e w' => ∃ v', e = .returned (.tuple #[]) ∧ MkOwn w' g g a0 a1 a2 a3 a4 m pc (.int .i64 x.f0) (.int .i64 x.f1) (.int .i64 x.f2) (.int .i64 x.f3) (.int .i64 x.f4) (.string x.f5) (.string x.f6) (.string x.f7) (.slice A8 x.f8.length c8) v' (l ++ ins) ∧ Below g W w'
def allOf (ins : Nat → List S60) (n : Nat) : List S60 := (List.range n).flatMap ins
theorem allOf_succ (ins : Nat → List S60) (n : Nat) : allOf ins (n + 1) = allOf ins n ++ ins n := by
  unfold allOf
  rw [List.range_succ, List.flatMap_append]
  simp
theorem MkOwn.next {w : World} {base g : Nat} {a0 a1 a2 a3 a4 : Value} {m : S25} {pc : Int} {b0 b1 b2 b3 b4 b5 b6 b7 b8 : Value} {v : Value} {l : List S60} (h : MkOwn w base g a0 a1 a2 a3 a4 m pc b0 b1 b2 b3 b4 b5 b6 b7 b8 v l) (pc' : Int) (u0 u1 u2 u3 u4 u5 u6 u7 u8 : Value) : MkOwn ((((((((((w.setCell ⟨g, 8, none⟩ (.int .i64 pc')).setCell ⟨g, 9, none⟩ (u0)).setCell ⟨g, 10, none⟩ (u1)).setCell ⟨g, 11, none⟩ (u2)).setCell ⟨g, 12, none⟩ (u3)).setCell ⟨g, 13, none⟩ (u4)).setCell ⟨g, 14, none⟩ (u5)).setCell ⟨g, 15, none⟩ (u6)).setCell ⟨g, 16, none⟩ (u7)).setCell ⟨g, 17, none⟩ (u8)) base g a0 a1 a2 a3 a4 m pc' u0 u1 u2 u3 u4 u5 u6 u7 u8 v l := ⟨(blk_put (cs := #[a0, a1, a2, a3, a4, .string m.f0, .string m.f1, .string m.f2, .int .i64 pc', u0, u1, u2, u3, u4, u5, u6, u7, b8, v]) (blk_put (cs := #[a0, a1, a2, a3, a4, .string m.f0, .string m.f1, .string m.f2, .int .i64 pc', u0, u1, u2, u3, u4, u5, u6, b7, b8, v]) (blk_put (cs := #[a0, a1, a2, a3, a4, .string m.f0, .string m.f1, .string m.f2, .int .i64 pc', u0, u1, u2, u3, u4, u5, b6, b7, b8, v]) (blk_put (cs := #[a0, a1, a2, a3, a4, .string m.f0, .string m.f1, .string m.f2, .int .i64 pc', u0, u1, u2, u3, u4, b5, b6, b7, b8, v]) (blk_put (cs := #[a0, a1, a2, a3, a4, .string m.f0, .string m.f1, .string m.f2, .int .i64 pc', u0, u1, u2, u3, b4, b5, b6, b7, b8, v]) (blk_put (cs := #[a0, a1, a2, a3, a4, .string m.f0, .string m.f1, .string m.f2, .int .i64 pc', u0, u1, u2, b3, b4, b5, b6, b7, b8, v]) (blk_put (cs := #[a0, a1, a2, a3, a4, .string m.f0, .string m.f1, .string m.f2, .int .i64 pc', u0, u1, b2, b3, b4, b5, b6, b7, b8, v]) (blk_put (cs := #[a0, a1, a2, a3, a4, .string m.f0, .string m.f1, .string m.f2, .int .i64 pc', u0, b1, b2, b3, b4, b5, b6, b7, b8, v]) (blk_put (cs := #[a0, a1, a2, a3, a4, .string m.f0, .string m.f1, .string m.f2, .int .i64 pc', b0, b1, b2, b3, b4, b5, b6, b7, b8, v]) (blk_put (cs := #[a0, a1, a2, a3, a4, .string m.f0, .string m.f1, .string m.f2, .int .i64 pc, b0, b1, b2, b3, b4, b5, b6, b7, b8, v]) h.b 8 (.int .i64 pc') rfl) 9 (u0) rfl) 10 (u1) rfl) 11 (u2) rfl) 12 (u3) rfl) 13 (u4) rfl) 14 (u5) rfl) 15 (u6) rfl) 16 (u7) rfl) 17 (u8) rfl), h.hb, (Kd.R_set (Kd.R_set (Kd.R_set (Kd.R_set (Kd.R_set (Kd.R_set (Kd.R_set (Kd.R_set (Kd.R_set (Kd.R_set h.r h.b (by decide) 8 (.int .i64 pc')) (blk_put (cs := #[a0, a1, a2, a3, a4, .string m.f0, .string m.f1, .string m.f2, .int .i64 pc, b0, b1, b2, b3, b4, b5, b6, b7, b8, v]) h.b 8 (.int .i64 pc') rfl) (by decide) 9 (u0)) (blk_put (cs := #[a0, a1, a2, a3, a4, .string m.f0, .string m.f1, .string m.f2, .int .i64 pc', b0, b1, b2, b3, b4, b5, b6, b7, b8, v]) (blk_put (cs := #[a0, a1, a2, a3, a4, .string m.f0, .string m.f1, .string m.f2, .int .i64 pc, b0, b1, b2, b3, b4, b5, b6, b7, b8, v]) h.b 8 (.int .i64 pc') rfl) 9 (u0) rfl) (by decide) 10 (u1)) (blk_put (cs := #[a0, a1, a2, a3, a4, .string m.f0, .string m.f1, .string m.f2, .int .i64 pc', u0, b1, b2, b3, b4, b5, b6, b7, b8, v]) (blk_put (cs := #[a0, a1, a2, a3, a4, .string m.f0, .string m.f1, .string m.f2, .int .i64 pc', b0, b1, b2, b3, b4, b5, b6, b7, b8, v]) (blk_put (cs := #[a0, a1, a2, a3, a4, .string m.f0, .string m.f1, .string m.f2, .int .i64 pc, b0, b1, b2, b3, b4, b5, b6, b7, b8, v]) h.b 8 (.int .i64 pc') rfl) 9 (u0) rfl) 10 (u1) rfl) (by decide) 11 (u2)) (blk_put (cs := #[a0, a1, a2, a3, a4, .string m.f0, .string m.f1, .string m.f2, .int .i64 pc', u0, u1, b2, b3, b4, b5, b6, b7, b8, v]) (blk_put (cs := #[a0, a1, a2, a3, a4, .string m.f0, .string m.f1, .string m.f2, .int .i64 pc', u0, b1, b2, b3, b4, b5, b6, b7, b8, v]) (blk_put (cs := #[a0, a1, a2, a3, a4, .string m.f0, .string m.f1, .string m.f2, .int .i64 pc', b0, b1, b2, b3, b4, b5, b6, b7, b8, v]) (blk_put (cs := #[a0, a1, a2, a3, a4, .string m.f0, .string m.f1, .string m.f2, .int .i64 pc, b0, b1, b2, b3, b4, b5, b6, b7, b8, v]) h.b 8 (.int .i64 pc') rfl) 9 (u0) rfl) 10 (u1) rfl) 11 (u2) rfl) (by decide) 12 (u3)) (blk_put (cs := #[a0, a1, a2, a3, a4, .string m.f0, .string m.f1, .string m.f2, .int .i64 pc', u0, u1, u2, b3, b4, b5, b6, b7, b8, v]) (blk_put (cs := #[a0, a1, a2, a3, a4, .string m.f0, .string m.f1, .string m.f2, .int .i64 pc', u0, u1, b2, b3, b4, b5, b6, b7, b8, v]) (blk_put (cs := #[a0, a1, a2, a3, a4, .string m.f0, .string m.f1, .string m.f2, .int .i64 pc', u0, b1, b2, b3, b4, b5, b6, b7, b8, v]) (blk_put (cs := #[a0, a1, a2, a3, a4, .string m.f0, .string m.f1, .string m.f2, .int .i64 pc', b0, b1, b2, b3, b4, b5, b6, b7, b8, v]) (blk_put (cs := #[a0, a1, a2, a3, a4, .string m.f0, .string m.f1, .string m.f2, .int .i64 pc, b0, b1, b2, b3, b4, b5, b6, b7, b8, v]) h.b 8 (.int .i64 pc') rfl) 9 (u0) rfl) 10 (u1) rfl) 11 (u2) rfl) 12 (u3) rfl) (by decide) 13 (u4)) (blk_put (cs := #[a0, a1, a2, a3, a4, .string m.f0, .string m.f1, .string m.f2, .int .i64 pc', u0, u1, u2, u3, b4, b5, b6, b7, b8, v]) (blk_put (cs := #[a0, a1, a2, a3, a4, .string m.f0, .string m.f1, .string m.f2, .int .i64 pc', u0, u1, u2, b3, b4, b5, b6, b7, b8, v]) (blk_put (cs := #[a0, a1, a2, a3, a4, .string m.f0, .string m.f1, .string m.f2, .int .i64 pc', u0, u1, b2, b3, b4, b5, b6, b7, b8, v]) (blk_put (cs := #[a0, a1, a2, a3, a4, .string m.f0, .string m.f1, .string m.f2, .int .i64 pc', u0, b1, b2, b3, b4, b5, b6, b7, b8, v]) (blk_put (cs := #[a0, a1, a2, a3, a4, .string m.f0, .string m.f1, .string m.f2, .int .i64 pc', b0, b1, b2, b3, b4, b5, b6, b7, b8, v]) (blk_put (cs := #[a0, a1, a2, a3, a4, .string m.f0, .string m.f1, .string m.f2, .int .i64 pc, b0, b1, b2, b3, b4, b5, b6, b7, b8, v]) h.b 8 (.int .i64 pc') rfl) 9 (u0) rfl) 10 (u1) rfl) 11 (u2) rfl) 12 (u3) rfl) 13 (u4) rfl) (by decide) 14 (u5)) (blk_put (cs := #[a0, a1, a2, a3, a4, .string m.f0, .string m.f1, .string m.f2, .int .i64 pc', u0, u1, u2, u3, u4, b5, b6, b7, b8, v]) (blk_put (cs := #[a0, a1, a2, a3, a4, .string m.f0, .string m.f1, .string m.f2, .int .i64 pc', u0, u1, u2, u3, b4, b5, b6, b7, b8, v]) (blk_put (cs := #[a0, a1, a2, a3, a4, .string m.f0, .string m.f1, .string m.f2, .int .i64 pc', u0, u1, u2, b3, b4, b5, b6, b7, b8, v]) (blk_put (cs := #[a0, a1, a2, a3, a4, .string m.f0, .string m.f1, .string m.f2, .int .i64 pc', u0, u1, b2, b3, b4, b5, b6, b7, b8, v]) (blk_put (cs := #[a0, a1, a2, a3, a4, .string m.f0, .string m.f1, .string m.f2, .int .i64 pc', u0, b1, b2, b3, b4, b5, b6, b7, b8, v]) (blk_put (cs := #[a0, a1, a2, a3, a4, .string m.f0, .string m.f1, .string m.f2, .int .i64 pc', b0, b1, b2, b3, b4, b5, b6, b7, b8, v]) (blk_put (cs := #[a0, a1, a2, a3, a4, .string m.f0, .string m.f1, .string m.f2, .int .i64 pc, b0, b1, b2, b3, b4, b5, b6, b7, b8, v]) h.b 8 (.int .i64 pc') rfl) 9 (u0) rfl) 10 (u1) rfl) 11 (u2) rfl) 12 (u3) rfl) 13 (u4) rfl) 14 (u5) rfl) (by decide) 15 (u6)) (blk_put (cs := #[a0, a1, a2, a3, a4, .string m.f0, .string m.f1, .string m.f2, .int .i64 pc', u0, u1, u2, u3, u4, u5, b6, b7, b8, v]) (blk_put (cs := #[a0, a1, a2, a3, a4, .string m.f0, .string m.f1, .string m.f2, .int .i64 pc', u0, u1, u2, u3, u4, b5, b6, b7, b8, v]) (blk_put (cs := #[a0, a1, a2, a3, a4, .string m.f0, .string m.f1, .string m.f2, .int .i64 pc', u0, u1, u2, u3, b4, b5, b6, b7, b8, v]) (blk_put (cs := #[a0, a1, a2, a3, a4, .string m.f0, .string m.f1, .string m.f2, .int .i64 pc', u0, u1, u2, b3, b4, b5, b6, b7, b8, v]) (blk_put (cs := #[a0, a1, a2, a3, a4, .string m.f0, .string m.f1, .string m.f2, .int .i64 pc', u0, u1, b2, b3, b4, b5, b6, b7, b8, v]) (blk_put (cs := #[a0, a1, a2, a3, a4, .string m.f0, .string m.f1, .string m.f2, .int .i64 pc', u0, b1, b2, b3, b4, b5, b6, b7, b8, v]) (blk_put (cs := #[a0, a1, a2, a3, a4, .string m.f0, .string m.f1, .string m.f2, .int .i64 pc', b0, b1, b2, b3, b4, b5, b6, b7, b8, v]) (blk_put (cs := #[a0, a1, a2, a3, a4, .string m.f0, .string m.f1, .string m.f2, .int .i64 pc, b0, b1, b2, b3, b4, b5, b6, b7, b8, v]) h.b 8 (.int .i64 pc') rfl) 9 (u0) rfl) 10 (u1) rfl) 11 (u2) rfl) 12 (u3) rfl) 13 (u4) rfl) 14 (u5) rfl) 15 (u6) rfl) (by decide) 16 (u7)) (blk_put (cs := #[a0, a1, a2, a3, a4, .string m.f0, .string m.f1, .string m.f2, .int .i64 pc', u0, u1, u2, u3, u4, u5, u6, b7, b8, v]) (blk_put (cs := #[a0, a1, a2, a3, a4, .string m.f0, .string m.f1, .string m.f2, .int .i64 pc', u0, u1, u2, u3, u4, u5, b6, b7, b8, v]) (blk_put (cs := #[a0, a1, a2, a3, a4, .string m.f0, .string m.f1, .string m.f2, .int .i64 pc', u0, u1, u2, u3, u4, b5, b6, b7, b8, v]) (blk_put (cs := #[a0, a1, a2, a3, a4, .string m.f0, .string m.f1, .string m.f2, .int .i64 pc', u0, u1, u2, u3, b4, b5, b6, b7, b8, v]) (blk_put (cs := #[a0, a1, a2, a3, a4, .string m.f0, .string m.f1, .string m.f2, .int .i64 pc', u0, u1, u2, b3, b4, b5, b6, b7, b8, v]) (blk_put (cs := #[a0, a1, a2, a3, a4, .string m.f0, .string m.f1, .string m.f2, .int .i64 pc', u0, u1, b2, b3, b4, b5, b6, b7, b8, v]) (blk_put (cs := #[a0, a1, a2, a3, a4, .string m.f0, .string m.f1, .string m.f2, .int .i64 pc', u0, b1, b2, b3, b4, b5, b6, b7, b8, v]) (blk_put (cs := #[a0, a1, a2, a3, a4, .string m.f0, .string m.f1, .string m.f2, .int .i64 pc', b0, b1, b2, b3, b4, b5, b6, b7, b8, v]) (blk_put (cs := #[a0, a1, a2, a3, a4, .string m.f0, .string m.f1, .string m.f2, .int .i64 pc, b0, b1, b2, b3, b4, b5, b6, b7, b8, v]) h.b 8 (.int .i64 pc') rfl) 9 (u0) rfl) 10 (u1) rfl) 11 (u2) rfl) 12 (u3) rfl) 13 (u4) rfl) 14 (u5) rfl) 15 (u6) rfl) 16 (u7) rfl) (by decide) 17 (u8))⟩
set_option maxHeartbeats 32000000 in
theorem gen_of (P : Nat → Prop) (A0 : Option Addr) (c0 : Nat) (l0 : List S33) (A1 : Option Addr) (c1 : Nat) (l1 : List ByteArray) (a2 a3 a4 b0 b1 b2 : ByteArray) (w : World) (hs : Kd.F k33 w P A0 l0.length l0) (hc : l0.length ≤ c0) (hr1 : Kd.C Kd.string w A1 l1.length l1) (hc1 : l1.length ≤ c1)
    (ins : Nat → List S60) (hput : ∀ i (h : i < (getM l0 b0 b1 b2).f5.length), Puts (.slice A0 l0.length c0) (.slice A1 l1.length c1) (.string a2) (.string a3) (.string a4) ⟨b0, b1, b2⟩ (i : Int) ((getM l0 b0 b1 b2).f5[i]) (ins i)) (hlen : ∀ i, i ≤ (getM l0 b0 b1 b2).f5.length → (allOf ins i).length + 2 ≤ 1048576) :
    Calls Try.prog 29 #[.agg #[.slice A0 l0.length c0, .slice A1 l1.length c1, .string a2, .string a3, .string a4], .agg #[.string b0, .string b1, .string b2]] w fun e w' => ∃ v', e = .returned v' ∧ Kd.R k60 60 w' w.heap.size (fun _ => True) v' (allOf ins (getM l0 b0 b1 b2).f5.length) ∧ Below w.heap.size w w' := by
  have hb0 := below_alloc (below_alloc (Below.refl w.heap.size w) (Obj.cells #[.slice A0 l0.length c0, .slice A1 l1.length c1, .string a2, .string a3, .string a4] 27)) (Obj.cells #[.string b0, .string b1, .string b2] 25)
  have HG := Aside0.mk (find_get P A0 c0 l0 A1 c1 l1 a2 a3 a4 b0 b1 b2 ((w.alloc (Obj.cells #[.slice A0 l0.length c0, .slice A1 l1.length c1, .string a2, .string a3, .string a4] 27)).alloc (Obj.cells #[.string b0, .string b1, .string b2] 25)) (Kd.F_below hs hb0) hc (Kd.C_below hr1 hb0) hc1)
  have HB0 := Aside0.mk hb0
  have hp := blk_alloc (World.alloc_heap_new w (Obj.cells #[.slice A0 l0.length c0, .slice A1 l1.length c1, .string a2, .string a3, .string a4] 27)) (Obj.cells #[.string b0, .string b1, .string b2] 25)
  have hq := World.alloc_heap_new (w.alloc (Obj.cells #[.slice A0 l0.length c0, .slice A1 l1.length c1, .string a2, .string a3, .string a4] 27)) (Obj.cells #[.string b0, .string b1, .string b2] 25)
  rw [World.size_alloc] at hq
  have HP := Aside0.mk hp
  have HQ := Aside0.mk hq
  have HPT := Aside0.mk hput
  have HLE := Aside0.mk hlen
  clear hs hr1 hb0 hp hq hput hlen
  go_enter Try.func29, Try.ntmps29
  go_wp2_with fail
  refine HG.out.mono ?_
  rintro e w1 ⟨A5, c5, rfl, hfk, hb⟩
  obtain ⟨hc5, hF⟩ := method_code hfk
  have HCD := Aside0.mk (Kd.F_now hF)
  have HC5 := Aside0.mk hc5
  have HB1 := Aside0.mk (below_step HB0.out hb)
  have HP1 := Aside0.mk (blk_below HP.out hb)
  have HQ1 := Aside0.mk (blk_below HQ.out hb)
  clear hfk hb hF hc5
  have HPm := Aside0.mk (blk_alloc HP1.out (Obj.cells #[.string (getM l0 b0 b1 b2).f0, .string (getM l0 b0 b1 b2).f1, .bool (getM l0 b0 b1 b2).f2, .bool (getM l0 b0 b1 b2).f3, .int .i64 (getM l0 b0 b1 b2).f4, .slice A5 (getM l0 b0 b1 b2).f5.length c5] 37))
  have HQm := Aside0.mk (blk_alloc HQ1.out (Obj.cells #[.string (getM l0 b0 b1 b2).f0, .string (getM l0 b0 b1 b2).f1, .bool (getM l0 b0 b1 b2).f2, .bool (getM l0 b0 b1 b2).f3, .int .i64 (getM l0 b0 b1 b2).f4, .slice A5 (getM l0 b0 b1 b2).f5.length c5] 37))
  have hd := blk_alloc (World.alloc_heap_new w1 (Obj.cells #[.string (getM l0 b0 b1 b2).f0, .string (getM l0 b0 b1 b2).f1, .bool (getM l0 b0 b1 b2).f2, .bool (getM l0 b0 b1 b2).f3, .int .i64 (getM l0 b0 b1 b2).f4, .slice A5 (getM l0 b0 b1 b2).f5.length c5] 37)) (Obj.cells #[.slice A0 l0.length c0, .slice A1 l1.length c1, .string a2, .string a3, .string a4, .string b0, .string b1, .string b2, .int .i64 0, .int .i64 0, .int .i64 0, .int .i64 0, .int .i64 0, .int .i64 0, .string ⟨#[]⟩, .string ⟨#[]⟩, .string ⟨#[]⟩, .slice none 0 0, .slice none 0 0] 85)
  have hk := World.alloc_heap_new (w1.alloc (Obj.cells #[.string (getM l0 b0 b1 b2).f0, .string (getM l0 b0 b1 b2).f1, .bool (getM l0 b0 b1 b2).f2, .bool (getM l0 b0 b1 b2).f3, .int .i64 (getM l0 b0 b1 b2).f4, .slice A5 (getM l0 b0 b1 b2).f5.length c5] 37)) (Obj.cells #[.slice A0 l0.length c0, .slice A1 l1.length c1, .string a2, .string a3, .string a4, .string b0, .string b1, .string b2, .int .i64 0, .int .i64 0, .int .i64 0, .int .i64 0, .int .i64 0, .int .i64 0, .string ⟨#[]⟩, .string ⟨#[]⟩, .string ⟨#[]⟩, .slice none 0 0, .slice none 0 0] 85)
  rw [World.size_alloc] at hk
  obtain ⟨n, hn⟩ : ∃ n, n = (getM l0 b0 b1 b2).f5.length := ⟨_, rfl⟩
  have HMK : Aside0 (MkOwn ((w1.alloc (Obj.cells #[.string (getM l0 b0 b1 b2).f0, .string (getM l0 b0 b1 b2).f1, .bool (getM l0 b0 b1 b2).f2, .bool (getM l0 b0 b1 b2).f3, .int .i64 (getM l0 b0 b1 b2).f4, .slice A5 (getM l0 b0 b1 b2).f5.length c5] 37)).alloc (Obj.cells #[.slice A0 l0.length c0, .slice A1 l1.length c1, .string a2, .string a3, .string a4, .string b0, .string b1, .string b2, .int .i64 0, .int .i64 0, .int .i64 0, .int .i64 0, .int .i64 0, .int .i64 0, .string ⟨#[]⟩, .string ⟨#[]⟩, .string ⟨#[]⟩, .slice none 0 0, .slice none 0 0] 85)) (w1.heap.size + 1) (w1.heap.size + 1) (.slice A0 l0.length c0) (.slice A1 l1.length c1) (.string a2) (.string a3) (.string a4) ⟨b0, b1, b2⟩ 0 (.int .i64 0) (.int .i64 0) (.int .i64 0) (.int .i64 0) (.int .i64 0) (.string ⟨#[]⟩) (.string ⟨#[]⟩) (.string ⟨#[]⟩) (.slice none 0 0) (.slice none 0 0) []) := ⟨⟨hk, Nat.le_refl _, Kd.R_nil _ _ _ _ _⟩⟩
  have HBC := Aside0.mk (below_alloc (below_alloc (Below.refl w1.heap.size w1) (Obj.cells #[.string (getM l0 b0 b1 b2).f0, .string (getM l0 b0 b1 b2).f1, .bool (getM l0 b0 b1 b2).f2, .bool (getM l0 b0 b1 b2).f3, .int .i64 (getM l0 b0 b1 b2).f4, .slice A5 (getM l0 b0 b1 b2).f5.length c5] 37)) (Obj.cells #[.slice A0 l0.length c0, .slice A1 l1.length c1, .string a2, .string a3, .string a4, .string b0, .string b1, .string b2, .int .i64 0, .int .i64 0, .int .i64 0, .int .i64 0, .int .i64 0, .int .i64 0, .string ⟨#[]⟩, .string ⟨#[]⟩, .string ⟨#[]⟩, .slice none 0 0, .slice none 0 0] 85))
  have d5 : ((w1.alloc (Obj.cells #[.string (getM l0 b0 b1 b2).f0, .string (getM l0 b0 b1 b2).f1, .bool (getM l0 b0 b1 b2).f2, .bool (getM l0 b0 b1 b2).f3, .int .i64 (getM l0 b0 b1 b2).f4, .slice A5 (getM l0 b0 b1 b2).f5.length c5] 37)).alloc (Obj.cells #[.slice A0 l0.length c0, .slice A1 l1.length c1, .string a2, .string a3, .string a4, .string b0, .string b1, .string b2, .int .i64 0, .int .i64 0, .int .i64 0, .int .i64 0, .int .i64 0, .int .i64 0, .string ⟨#[]⟩, .string ⟨#[]⟩, .string ⟨#[]⟩, .slice none 0 0, .slice none 0 0] 85)).cell? ⟨w1.heap.size, 5, none⟩ = some (.slice A5 (getM l0 b0 b1 b2).f5.length c5) := blk_cell hd 5
  have HSZ : Aside0 (((w1.alloc (Obj.cells #[.string (getM l0 b0 b1 b2).f0, .string (getM l0 b0 b1 b2).f1, .bool (getM l0 b0 b1 b2).f2, .bool (getM l0 b0 b1 b2).f3, .int .i64 (getM l0 b0 b1 b2).f4, .slice A5 (getM l0 b0 b1 b2).f5.length c5] 37)).alloc (Obj.cells #[.slice A0 l0.length c0, .slice A1 l1.length c1, .string a2, .string a3, .string a4, .string b0, .string b1, .string b2, .int .i64 0, .int .i64 0, .int .i64 0, .int .i64 0, .int .i64 0, .int .i64 0, .string ⟨#[]⟩, .string ⟨#[]⟩, .string ⟨#[]⟩, .slice none 0 0, .slice none 0 0] 85)).heap.size = w1.heap.size + 2) := ⟨by rw [World.size_alloc, World.size_alloc]⟩
  clear hk hd
  obtain ⟨p0, p1, p2, p3, p4⟩ := cells5 HPm.out
  obtain ⟨q0, q1, q2⟩ := cells3 HQm.out
  go_wp2_with fail
  clear p0 p1 p2 p3 p4 q0 q1 q2 d5
  generalize (w1.alloc (Obj.cells #[.string (getM l0 b0 b1 b2).f0, .string (getM l0 b0 b1 b2).f1, .bool (getM l0 b0 b1 b2).f2, .bool (getM l0 b0 b1 b2).f3, .int .i64 (getM l0 b0 b1 b2).f4, .slice A5 (getM l0 b0 b1 b2).f5.length c5] 37)).alloc (Obj.cells #[.slice A0 l0.length c0, .slice A1 l1.length c1, .string a2, .string a3, .string a4, .string b0, .string b1, .string b2, .int .i64 0, .int .i64 0, .int .i64 0, .int .i64 0, .int .i64 0, .int .i64 0, .string ⟨#[]⟩, .string ⟨#[]⟩, .string ⟨#[]⟩, .slice none 0 0, .slice none 0 0] 85) = W2 at HMK HBC HSZ ⊢
  obtain ⟨G, hG⟩ : ∃ G, G = w1.heap.size + 1 := ⟨_, rfl⟩
  rw [← hG] at HMK ⊢
  have HG1 : Aside0 (w1.heap.size ≤ G ∧ W2.heap.size = G + 1) := ⟨by have := HSZ.out; omega⟩
  rw [← hn]
  have HNN := Aside0.mk hn
  clear hG HSZ hn
  go_loopg [21] n (fun kq v21 wr => ∃ (i : Nat) (pcv : Int) (t0 t1 t2 t3 t4 t5 t6 t7 t8 v : Value), v21 = .int .i64 (i : Int) ∧ i + kq = n ∧ Aside0 (MkOwn wr G G (.slice A0 l0.length c0) (.slice A1 l1.length c1) (.string a2) (.string a3) (.string a4) ⟨b0, b1, b2⟩ pcv t0 t1 t2 t3 t4 t5 t6 t7 t8 v (allOf ins i)) ∧ Aside0 (Below G W2 wr))
  case atStart => exact ⟨0, 0, .int .i64 0, .int .i64 0, .int .i64 0, .int .i64 0, .int .i64 0, .string ⟨#[]⟩, .string ⟨#[]⟩, .string ⟨#[]⟩, .slice none 0 0, .slice none 0 0, rfl, by omega, HMK, ⟨Below.refl _ _⟩⟩
  case round =>
    obtain ⟨i, pcv, t0, t1, t2, t3, t4, t5, t6, t7, t8, v, rfl, hi, HM, HBL⟩ := hrel
    have HBR : Aside0 (Below w1.heap.size w1 wr) := ⟨HBC.out.trans (HBL.out.mono HG1.out.1)⟩
    by_cases hlt : i < n
    · have hltX : i < (getM l0 b0 b1 b2).f5.length := by rw [← HNN.out]; exact hlt
      obtain ⟨ad, A8, c8, hA, h0, h1, h2, h3, h4, h5, h6, h7, h8, hl8, hC8⟩ := at_T74 HCD.out (i : Int) (by omega) (Int.ofNat_lt.2 hltX)
      have hx : rd_T74 (getM l0 b0 b1 b2).f5 (i : Int) = (getM l0 b0 b1 b2).f5[i] := by
        unfold rd_T74
        rw [Int.toNat_natCast, List.getD_eq_getElem?_getD, List.getElem?_eq_getElem hltX]
        rfl
      have HPI := Aside0.mk (HPT.out i hltX)
      rw [hx, Int.toNat_natCast] at h0 h1 h2 h3 h4 h5 h6 h7 h8
      rw [hx] at hl8 hC8
      obtain ⟨y, hy⟩ : ∃ y, (getM l0 b0 b1 b2).f5[i] = y := ⟨_, rfl⟩
      rw [hy] at HPI h0 h1 h2 h3 h4 h5 h6 h7 h8 hl8 hC8
      subst hA
      replace h0 := (HBR.out.cell (World.block_lt_of_cell? _ _ h0)).trans h0
      replace h1 := (HBR.out.cell (World.block_lt_of_cell? _ _ h1)).trans h1
      replace h2 := (HBR.out.cell (World.block_lt_of_cell? _ _ h2)).trans h2
      replace h3 := (HBR.out.cell (World.block_lt_of_cell? _ _ h3)).trans h3
      replace h4 := (HBR.out.cell (World.block_lt_of_cell? _ _ h4)).trans h4
      replace h5 := (HBR.out.cell (World.block_lt_of_cell? _ _ h5)).trans h5
      replace h6 := (HBR.out.cell (World.block_lt_of_cell? _ _ h6)).trans h6
      replace h7 := (HBR.out.cell (World.block_lt_of_cell? _ _ h7)).trans h7
      replace h8 := (HBR.out.cell (World.block_lt_of_cell? _ _ h8)).trans h8
      obtain ⟨s8, s9, s10, s11, s12, s13, s14, s15, s16, s17⟩ : wr.cell? ⟨G, 8, none⟩ = some (.int .i64 pcv) ∧ wr.cell? ⟨G, 9, none⟩ = some (t0) ∧ wr.cell? ⟨G, 10, none⟩ = some (t1) ∧ wr.cell? ⟨G, 11, none⟩ = some (t2) ∧ wr.cell? ⟨G, 12, none⟩ = some (t3) ∧ wr.cell? ⟨G, 13, none⟩ = some (t4) ∧ wr.cell? ⟨G, 14, none⟩ = some (t5) ∧ wr.cell? ⟨G, 15, none⟩ = some (t6) ∧ wr.cell? ⟨G, 16, none⟩ = some (t7) ∧ wr.cell? ⟨G, 17, none⟩ = some (t8) := ⟨blk_cell HM.out.b 8, blk_cell HM.out.b 9, blk_cell HM.out.b 10, blk_cell HM.out.b 11, blk_cell HM.out.b 12, blk_cell HM.out.b 13, blk_cell HM.out.b 14, blk_cell HM.out.b 15, blk_cell HM.out.b 16, blk_cell HM.out.b 17⟩
      have hfg := blk_frozen HM.out.b
      have HN := Aside0.mk (HM.out.next (i : Int) (.int .i64 y.f0) (.int .i64 y.f1) (.int .i64 y.f2) (.int .i64 y.f3) (.int .i64 y.f4) (.string y.f5) (.string y.f6) (.string y.f7) (.slice A8 y.f8.length c8))
      have HBS := Aside0.mk (show Below w1.heap.size w1 ((((((((((wr.setCell ⟨G, 8, none⟩ (.int .i64 (i : Int))).setCell ⟨G, 9, none⟩ (.int .i64 y.f0)).setCell ⟨G, 10, none⟩ (.int .i64 y.f1)).setCell ⟨G, 11, none⟩ (.int .i64 y.f2)).setCell ⟨G, 12, none⟩ (.int .i64 y.f3)).setCell ⟨G, 13, none⟩ (.int .i64 y.f4)).setCell ⟨G, 14, none⟩ (.string y.f5)).setCell ⟨G, 15, none⟩ (.string y.f6)).setCell ⟨G, 16, none⟩ (.string y.f7)).setCell ⟨G, 17, none⟩ (.slice A8 y.f8.length c8)) from ((((((((((HBR.out.setCell HG1.out.1 _).setCell HG1.out.1 _).setCell HG1.out.1 _).setCell HG1.out.1 _).setCell HG1.out.1 _).setCell HG1.out.1 _).setCell HG1.out.1 _).setCell HG1.out.1 _).setCell HG1.out.1 _).setCell HG1.out.1 _))
      have HBT := Aside0.mk (show Below G W2 ((((((((((wr.setCell ⟨G, 8, none⟩ (.int .i64 (i : Int))).setCell ⟨G, 9, none⟩ (.int .i64 y.f0)).setCell ⟨G, 10, none⟩ (.int .i64 y.f1)).setCell ⟨G, 11, none⟩ (.int .i64 y.f2)).setCell ⟨G, 12, none⟩ (.int .i64 y.f3)).setCell ⟨G, 13, none⟩ (.int .i64 y.f4)).setCell ⟨G, 14, none⟩ (.string y.f5)).setCell ⟨G, 15, none⟩ (.string y.f6)).setCell ⟨G, 16, none⟩ (.string y.f7)).setCell ⟨G, 17, none⟩ (.slice A8 y.f8.length c8)) from ((((((((((HBL.out.setCell (Nat.le_refl _) _).setCell (Nat.le_refl _) _).setCell (Nat.le_refl _) _).setCell (Nat.le_refl _) _).setCell (Nat.le_refl _) _).setCell (Nat.le_refl _) _).setCell (Nat.le_refl _) _).setCell (Nat.le_refl _) _).setCell (Nat.le_refl _) _).setCell (Nat.le_refl _) _))
      have HL8 := Aside0.mk hl8
      have HC8 := Aside0.mk hC8
      have HLI := Aside0.mk (HLE.out i (Nat.le_of_lt hltX))
      have hd : decide ((i : Int) < (n : Int)) = true := decide_eq_true (by omega)
      have hi0 : (0 : Int) ≤ (i : Int) := by omega
      have hi1 : (i : Int) < (n : Int) := by omega
      have HLT := Aside0.mk hlt
      clear hx hy hl8 hC8 hltX
      go_wp2_with fail
      refine (HPI.out G A8 c8 v (allOf ins i) _ HN.out (Kd.C_below HC8.out HBS.out) HL8.out HLI.out (Nat.le_trans (by have := HG1.out.2; omega) HBT.out.size)).mono ?_
      rintro e w3 ⟨v3, rfl, hm3, hb3⟩
      have HM3 := Aside0.mk hm3
      have HB3 := Aside0.mk (HBT.out.trans hb3)
      clear hm3 hb3 h0 h1 h2 h3 h4 h5 h6 h7 h8 s8 s9 s10 s11 s12 s13 s14 s15 s16 s17 hfg
      go_wp2_with fail
      go_roundg (gk - 1)
      case measure => omega
      case rel => exact ⟨i + 1, (i : Int), .int .i64 y.f0, .int .i64 y.f1, .int .i64 y.f2, .int .i64 y.f3, .int .i64 y.f4, .string y.f5, .string y.f6, .string y.f7, .slice A8 y.f8.length c8, v3, by rw [show wrap64 ((i : Int) + 1) = ((i + 1 : Nat) : Int) from by have hm := HCD.out.2.1; have h1 := HLT.out; have h2 := HNN.out; unfold wrap64; omega], by omega, ⟨by rw [allOf_succ]; exact HM3.out⟩, HB3⟩
    · have hd : decide ((i : Int) < (n : Int)) = false := decide_eq_false (by omega)
      obtain rfl : i = n := by omega
      have s18 : wr.cell? ⟨G, 18, none⟩ = some v := blk_cell HM.out.b 18
      have HFIN := Aside0.mk (Kd.R_lower HM.out.r (Nat.le_trans HB1.out.size HG1.out.1))
      have HBF := Aside0.mk (below_step HB1.out HBR.out)
      go_wp2_with fail
      exact bodyPost_ret (results_tmp rfl _ _ _) rfl ⟨v, rfl, by rw [← HNN.out]; exact HFIN.out, HBF.out⟩
end Go.Proofs.Ytfplcohjnlbfjaa.Hand
end

section
namespace Go.Proofs.Ytfplcohjnlbfjaa.Hand
open Go.RowKit Go.Proofs.YtfplcohjnlbfjaaW.PrintWords Go.Proofs.YtfplcohjnlbfjaaW.PrintLast Go.Proofs.YtfplcohjnlbfjaaW.PrintMore
set_option linter.unusedVariables false
set_option linter.unusedSimpArgs false
set_option maxRecDepth 20000
def passL (c : S60) (t : S25) (i : Nat) : S60 := ⟨2, c.f1, (⟨1, t, (i : Int), z44, z46⟩ : S50), (⟨1, c.f4.f0, (c.f8.getD i 0), z44, z46⟩ : S50), ⟨c.f4.f0, 0, ⟨#[]⟩⟩, z44, ⟨#[]⟩, z25, []⟩
def passAll (c : S60) (t : S25) (n : Nat) : List S60 := (List.range n).map (passL c t)
theorem passAll_succ (c : S60) (t : S25) (n : Nat) : passAll c t (n + 1) = passAll c t n ++ [passL c t n] := by
  unfold passAll
  rw [List.range_succ, List.map_append]
  rfl
theorem int_at {w : World} {A : Option Addr} {xs : List Int} (h : Kd.C (Kd.int .i64) w A xs.length xs) (i : Nat) (hi : i < xs.length) : ∃ ad, A = some ad ∧ w.cell? (ad.add i) = some (.int .i64 (xs.getD i 0)) := by
  obtain ⟨ad, c, rfl, hl, hK, hc⟩ := Kd.C_get h 0 (i : Int) (by omega) (Int.ofNat_lt.2 hi)
  refine ⟨ad, rfl, ?_⟩
  have h1 := hc 0 (.int .i64 (xs.getD i 0)) (by
    have h2 : c = [.int .i64 (xs.getD (i : Int).toNat 0)] := hK
    rw [h2]; rfl)
  have e : (i : Int).toNat * (Kd.int .i64).sz + 0 = i := by show i * 1 + 0 = i; omega
  rw [e] at h1
  exact h1
set_option maxHeartbeats 64000000 in
theorem gen_pass (c : S60) (A : Option Addr) (c0 : Nat) (t : S25) (w : World) (hk : c.f0 = 9) (ht : c.f2.f0 = 0) (hC : Kd.C (Kd.int .i64) w A c.f8.length c.f8) (hc : c.f8.length ≤ c0) (hlen : c.f8.length + 2 ≤ 1048576) :
    Calls Try.prog 24 #[.agg (List.toArray ((.int .i64 c.f0) :: (.int .i64 c.f1) :: (.int .i64 c.f2.f0) :: (.string c.f2.f1.f0) :: (.string c.f2.f1.f1) :: (.string c.f2.f1.f2) :: (.int .i64 c.f2.f2) :: (.string c.f2.f3.f0) :: [.string c.f2.f3.f1, .string c.f2.f4.f0.f0, .string c.f2.f4.f0.f1, .string c.f2.f4.f0.f2, .int .i64 c.f2.f4.f1, .string c.f2.f4.f2, .int .i64 c.f3.f0, .string c.f3.f1.f0, .string c.f3.f1.f1, .string c.f3.f1.f2, .int .i64 c.f3.f2, .string c.f3.f3.f0, .string c.f3.f3.f1, .string c.f3.f4.f0.f0, .string c.f3.f4.f0.f1, .string c.f3.f4.f0.f2, .int .i64 c.f3.f4.f1, .string c.f3.f4.f2, .string c.f4.f0.f0, .string c.f4.f0.f1, .string c.f4.f0.f2, .int .i64 c.f4.f1, .string c.f4.f2, .string c.f5.f0, .string c.f5.f1, .string c.f6, .string c.f7.f0, .string c.f7.f1, .string c.f7.f2, .slice A c.f8.length c0])), .agg #[.string t.f0, .string t.f1, .string t.f2]] w fun e w' => ∃ v', e = .returned v' ∧ Kd.R k60 60 w' w.heap.size (fun _ => True) v' (passAll c t c.f8.length) ∧ Below w.heap.size w w' := by
  have hab := below_alloc (below_alloc (below_alloc (Below.refl w.heap.size w) (Obj.cells (List.toArray ((.int .i64 c.f0) :: (.int .i64 c.f1) :: (.int .i64 c.f2.f0) :: (.string c.f2.f1.f0) :: (.string c.f2.f1.f1) :: (.string c.f2.f1.f2) :: (.int .i64 c.f2.f2) :: (.string c.f2.f3.f0) :: [.string c.f2.f3.f1, .string c.f2.f4.f0.f0, .string c.f2.f4.f0.f1, .string c.f2.f4.f0.f2, .int .i64 c.f2.f4.f1, .string c.f2.f4.f2, .int .i64 c.f3.f0, .string c.f3.f1.f0, .string c.f3.f1.f1, .string c.f3.f1.f2, .int .i64 c.f3.f2, .string c.f3.f3.f0, .string c.f3.f3.f1, .string c.f3.f4.f0.f0, .string c.f3.f4.f0.f1, .string c.f3.f4.f0.f2, .int .i64 c.f3.f4.f1, .string c.f3.f4.f2, .string c.f4.f0.f0, .string c.f4.f0.f1, .string c.f4.f0.f2, .int .i64 c.f4.f1, .string c.f4.f2, .string c.f5.f0, .string c.f5.f1, .string c.f6, .string c.f7.f0, .string c.f7.f1, .string c.f7.f2, .slice A c.f8.length c0])) 60)) (Obj.cells #[.string t.f0, .string t.f1, .string t.f2] 25)) (Obj.cells #[.slice none 0 0, .slice none 0 0, .string ⟨#[]⟩, .string ⟨#[]⟩, .string ⟨#[]⟩, .string c.f4.f0.f0, .string c.f4.f0.f1, .string c.f4.f0.f2, .int .i64 c.f1, .int .i64 0, .int .i64 0, .int .i64 0, .int .i64 0, .int .i64 0, .string ⟨#[]⟩, .string ⟨#[]⟩, .string ⟨#[]⟩, .slice none 0 0, .slice none 0 0] 85)
  have h0 := blk_alloc (blk_alloc (World.alloc_heap_new w (Obj.cells (List.toArray ((.int .i64 c.f0) :: (.int .i64 c.f1) :: (.int .i64 c.f2.f0) :: (.string c.f2.f1.f0) :: (.string c.f2.f1.f1) :: (.string c.f2.f1.f2) :: (.int .i64 c.f2.f2) :: (.string c.f2.f3.f0) :: [.string c.f2.f3.f1, .string c.f2.f4.f0.f0, .string c.f2.f4.f0.f1, .string c.f2.f4.f0.f2, .int .i64 c.f2.f4.f1, .string c.f2.f4.f2, .int .i64 c.f3.f0, .string c.f3.f1.f0, .string c.f3.f1.f1, .string c.f3.f1.f2, .int .i64 c.f3.f2, .string c.f3.f3.f0, .string c.f3.f3.f1, .string c.f3.f4.f0.f0, .string c.f3.f4.f0.f1, .string c.f3.f4.f0.f2, .int .i64 c.f3.f4.f1, .string c.f3.f4.f2, .string c.f4.f0.f0, .string c.f4.f0.f1, .string c.f4.f0.f2, .int .i64 c.f4.f1, .string c.f4.f2, .string c.f5.f0, .string c.f5.f1, .string c.f6, .string c.f7.f0, .string c.f7.f1, .string c.f7.f2, .slice A c.f8.length c0])) 60)) (Obj.cells #[.string t.f0, .string t.f1, .string t.f2] 25)) (Obj.cells #[.slice none 0 0, .slice none 0 0, .string ⟨#[]⟩, .string ⟨#[]⟩, .string ⟨#[]⟩, .string c.f4.f0.f0, .string c.f4.f0.f1, .string c.f4.f0.f2, .int .i64 c.f1, .int .i64 0, .int .i64 0, .int .i64 0, .int .i64 0, .int .i64 0, .string ⟨#[]⟩, .string ⟨#[]⟩, .string ⟨#[]⟩, .slice none 0 0, .slice none 0 0] 85)
  have h1 := blk_alloc (World.alloc_heap_new (w.alloc (Obj.cells (List.toArray ((.int .i64 c.f0) :: (.int .i64 c.f1) :: (.int .i64 c.f2.f0) :: (.string c.f2.f1.f0) :: (.string c.f2.f1.f1) :: (.string c.f2.f1.f2) :: (.int .i64 c.f2.f2) :: (.string c.f2.f3.f0) :: [.string c.f2.f3.f1, .string c.f2.f4.f0.f0, .string c.f2.f4.f0.f1, .string c.f2.f4.f0.f2, .int .i64 c.f2.f4.f1, .string c.f2.f4.f2, .int .i64 c.f3.f0, .string c.f3.f1.f0, .string c.f3.f1.f1, .string c.f3.f1.f2, .int .i64 c.f3.f2, .string c.f3.f3.f0, .string c.f3.f3.f1, .string c.f3.f4.f0.f0, .string c.f3.f4.f0.f1, .string c.f3.f4.f0.f2, .int .i64 c.f3.f4.f1, .string c.f3.f4.f2, .string c.f4.f0.f0, .string c.f4.f0.f1, .string c.f4.f0.f2, .int .i64 c.f4.f1, .string c.f4.f2, .string c.f5.f0, .string c.f5.f1, .string c.f6, .string c.f7.f0, .string c.f7.f1, .string c.f7.f2, .slice A c.f8.length c0])) 60)) (Obj.cells #[.string t.f0, .string t.f1, .string t.f2] 25)) (Obj.cells #[.slice none 0 0, .slice none 0 0, .string ⟨#[]⟩, .string ⟨#[]⟩, .string ⟨#[]⟩, .string c.f4.f0.f0, .string c.f4.f0.f1, .string c.f4.f0.f2, .int .i64 c.f1, .int .i64 0, .int .i64 0, .int .i64 0, .int .i64 0, .int .i64 0, .string ⟨#[]⟩, .string ⟨#[]⟩, .string ⟨#[]⟩, .slice none 0 0, .slice none 0 0] 85)
  have h2 := World.alloc_heap_new ((w.alloc (Obj.cells (List.toArray ((.int .i64 c.f0) :: (.int .i64 c.f1) :: (.int .i64 c.f2.f0) :: (.string c.f2.f1.f0) :: (.string c.f2.f1.f1) :: (.string c.f2.f1.f2) :: (.int .i64 c.f2.f2) :: (.string c.f2.f3.f0) :: [.string c.f2.f3.f1, .string c.f2.f4.f0.f0, .string c.f2.f4.f0.f1, .string c.f2.f4.f0.f2, .int .i64 c.f2.f4.f1, .string c.f2.f4.f2, .int .i64 c.f3.f0, .string c.f3.f1.f0, .string c.f3.f1.f1, .string c.f3.f1.f2, .int .i64 c.f3.f2, .string c.f3.f3.f0, .string c.f3.f3.f1, .string c.f3.f4.f0.f0, .string c.f3.f4.f0.f1, .string c.f3.f4.f0.f2, .int .i64 c.f3.f4.f1, .string c.f3.f4.f2, .string c.f4.f0.f0, .string c.f4.f0.f1, .string c.f4.f0.f2, .int .i64 c.f4.f1, .string c.f4.f2, .string c.f5.f0, .string c.f5.f1, .string c.f6, .string c.f7.f0, .string c.f7.f1, .string c.f7.f2, .slice A c.f8.length c0])) 60)).alloc (Obj.cells #[.string t.f0, .string t.f1, .string t.f2] 25)) (Obj.cells #[.slice none 0 0, .slice none 0 0, .string ⟨#[]⟩, .string ⟨#[]⟩, .string ⟨#[]⟩, .string c.f4.f0.f0, .string c.f4.f0.f1, .string c.f4.f0.f2, .int .i64 c.f1, .int .i64 0, .int .i64 0, .int .i64 0, .int .i64 0, .int .i64 0, .string ⟨#[]⟩, .string ⟨#[]⟩, .string ⟨#[]⟩, .slice none 0 0, .slice none 0 0] 85)
  rw [World.size_alloc] at h1
  rw [World.size_alloc, World.size_alloc] at h2
  have k10 : (c.f0 == 10) = false := by rw [hk]; rfl
  have k9 : (c.f0 == 9) = true := by rw [hk]; rfl
  have k0 : (c.f2.f0 != 0) = false := by rw [ht]; rfl
  have HCA := Aside0.mk hC
  have HLN := Aside0.mk hlen
  obtain ⟨n, hn⟩ : ∃ n, n = c.f8.length := ⟨_, rfl⟩
  have HMK : Aside0 (MkOwn ((((w.alloc (Obj.cells (List.toArray ((.int .i64 c.f0) :: (.int .i64 c.f1) :: (.int .i64 c.f2.f0) :: (.string c.f2.f1.f0) :: (.string c.f2.f1.f1) :: (.string c.f2.f1.f2) :: (.int .i64 c.f2.f2) :: (.string c.f2.f3.f0) :: [.string c.f2.f3.f1, .string c.f2.f4.f0.f0, .string c.f2.f4.f0.f1, .string c.f2.f4.f0.f2, .int .i64 c.f2.f4.f1, .string c.f2.f4.f2, .int .i64 c.f3.f0, .string c.f3.f1.f0, .string c.f3.f1.f1, .string c.f3.f1.f2, .int .i64 c.f3.f2, .string c.f3.f3.f0, .string c.f3.f3.f1, .string c.f3.f4.f0.f0, .string c.f3.f4.f0.f1, .string c.f3.f4.f0.f2, .int .i64 c.f3.f4.f1, .string c.f3.f4.f2, .string c.f4.f0.f0, .string c.f4.f0.f1, .string c.f4.f0.f2, .int .i64 c.f4.f1, .string c.f4.f2, .string c.f5.f0, .string c.f5.f1, .string c.f6, .string c.f7.f0, .string c.f7.f1, .string c.f7.f2, .slice A c.f8.length c0])) 60)).alloc (Obj.cells #[.string t.f0, .string t.f1, .string t.f2] 25))).alloc (Obj.cells #[.slice none 0 0, .slice none 0 0, .string ⟨#[]⟩, .string ⟨#[]⟩, .string ⟨#[]⟩, .string c.f4.f0.f0, .string c.f4.f0.f1, .string c.f4.f0.f2, .int .i64 c.f1, .int .i64 0, .int .i64 0, .int .i64 0, .int .i64 0, .int .i64 0, .string ⟨#[]⟩, .string ⟨#[]⟩, .string ⟨#[]⟩, .slice none 0 0, .slice none 0 0] 85)) (w.heap.size + 2) (w.heap.size + 2) (.slice none 0 0) (.slice none 0 0) (.string ⟨#[]⟩) (.string ⟨#[]⟩) (.string ⟨#[]⟩) c.f4.f0 c.f1 (.int .i64 0) (.int .i64 0) (.int .i64 0) (.int .i64 0) (.int .i64 0) (.string ⟨#[]⟩) (.string ⟨#[]⟩) (.string ⟨#[]⟩) (.slice none 0 0) (.slice none 0 0) (passAll c t 0)) := ⟨⟨h2, Nat.le_refl _, Kd.R_nil _ _ _ _ _⟩⟩
  have H0 := Aside0.mk h0
  have H1 := Aside0.mk h1
  have HAB := Aside0.mk hab
  have HSZ : Aside0 (((((w.alloc (Obj.cells (List.toArray ((.int .i64 c.f0) :: (.int .i64 c.f1) :: (.int .i64 c.f2.f0) :: (.string c.f2.f1.f0) :: (.string c.f2.f1.f1) :: (.string c.f2.f1.f2) :: (.int .i64 c.f2.f2) :: (.string c.f2.f3.f0) :: [.string c.f2.f3.f1, .string c.f2.f4.f0.f0, .string c.f2.f4.f0.f1, .string c.f2.f4.f0.f2, .int .i64 c.f2.f4.f1, .string c.f2.f4.f2, .int .i64 c.f3.f0, .string c.f3.f1.f0, .string c.f3.f1.f1, .string c.f3.f1.f2, .int .i64 c.f3.f2, .string c.f3.f3.f0, .string c.f3.f3.f1, .string c.f3.f4.f0.f0, .string c.f3.f4.f0.f1, .string c.f3.f4.f0.f2, .int .i64 c.f3.f4.f1, .string c.f3.f4.f2, .string c.f4.f0.f0, .string c.f4.f0.f1, .string c.f4.f0.f2, .int .i64 c.f4.f1, .string c.f4.f2, .string c.f5.f0, .string c.f5.f1, .string c.f6, .string c.f7.f0, .string c.f7.f1, .string c.f7.f2, .slice A c.f8.length c0])) 60)).alloc (Obj.cells #[.string t.f0, .string t.f1, .string t.f2] 25))).alloc (Obj.cells #[.slice none 0 0, .slice none 0 0, .string ⟨#[]⟩, .string ⟨#[]⟩, .string ⟨#[]⟩, .string c.f4.f0.f0, .string c.f4.f0.f1, .string c.f4.f0.f2, .int .i64 c.f1, .int .i64 0, .int .i64 0, .int .i64 0, .int .i64 0, .int .i64 0, .string ⟨#[]⟩, .string ⟨#[]⟩, .string ⟨#[]⟩, .slice none 0 0, .slice none 0 0] 85)).heap.size = w.heap.size + 3) := ⟨by rw [World.size_alloc, World.size_alloc, World.size_alloc]⟩
  clear hk ht hC h0 h1 h2 hlen hab
  go_enter Try.func24, Try.ntmps24
  go_wp2_with fail
  generalize ((((w.alloc (Obj.cells (List.toArray ((.int .i64 c.f0) :: (.int .i64 c.f1) :: (.int .i64 c.f2.f0) :: (.string c.f2.f1.f0) :: (.string c.f2.f1.f1) :: (.string c.f2.f1.f2) :: (.int .i64 c.f2.f2) :: (.string c.f2.f3.f0) :: [.string c.f2.f3.f1, .string c.f2.f4.f0.f0, .string c.f2.f4.f0.f1, .string c.f2.f4.f0.f2, .int .i64 c.f2.f4.f1, .string c.f2.f4.f2, .int .i64 c.f3.f0, .string c.f3.f1.f0, .string c.f3.f1.f1, .string c.f3.f1.f2, .int .i64 c.f3.f2, .string c.f3.f3.f0, .string c.f3.f3.f1, .string c.f3.f4.f0.f0, .string c.f3.f4.f0.f1, .string c.f3.f4.f0.f2, .int .i64 c.f3.f4.f1, .string c.f3.f4.f2, .string c.f4.f0.f0, .string c.f4.f0.f1, .string c.f4.f0.f2, .int .i64 c.f4.f1, .string c.f4.f2, .string c.f5.f0, .string c.f5.f1, .string c.f6, .string c.f7.f0, .string c.f7.f1, .string c.f7.f2, .slice A c.f8.length c0])) 60)).alloc (Obj.cells #[.string t.f0, .string t.f1, .string t.f2] 25))).alloc (Obj.cells #[.slice none 0 0, .slice none 0 0, .string ⟨#[]⟩, .string ⟨#[]⟩, .string ⟨#[]⟩, .string c.f4.f0.f0, .string c.f4.f0.f1, .string c.f4.f0.f2, .int .i64 c.f1, .int .i64 0, .int .i64 0, .int .i64 0, .int .i64 0, .int .i64 0, .string ⟨#[]⟩, .string ⟨#[]⟩, .string ⟨#[]⟩, .slice none 0 0, .slice none 0 0] 85)) = W2 at HMK H0 H1 HAB HSZ ⊢
  generalize Value.agg (List.toArray ((.int .i64 c.f0) :: (.int .i64 c.f1) :: (.int .i64 c.f2.f0) :: (.string c.f2.f1.f0) :: (.string c.f2.f1.f1) :: (.string c.f2.f1.f2) :: (.int .i64 c.f2.f2) :: (.string c.f2.f3.f0) :: [.string c.f2.f3.f1, .string c.f2.f4.f0.f0, .string c.f2.f4.f0.f1, .string c.f2.f4.f0.f2, .int .i64 c.f2.f4.f1, .string c.f2.f4.f2, .int .i64 c.f3.f0, .string c.f3.f1.f0, .string c.f3.f1.f1, .string c.f3.f1.f2, .int .i64 c.f3.f2, .string c.f3.f3.f0, .string c.f3.f3.f1, .string c.f3.f4.f0.f0, .string c.f3.f4.f0.f1, .string c.f3.f4.f0.f2, .int .i64 c.f3.f4.f1, .string c.f3.f4.f2, .string c.f4.f0.f0, .string c.f4.f0.f1, .string c.f4.f0.f2, .int .i64 c.f4.f1, .string c.f4.f2, .string c.f5.f0, .string c.f5.f1, .string c.f6, .string c.f7.f0, .string c.f7.f1, .string c.f7.f2, .slice A c.f8.length c0])) = cv
  rw [← hn]
  have HNN := Aside0.mk hn
  clear hn
  go_loopg [24] n (fun kq v24 wr => ∃ (i : Nat) (v : Value), v24 = .int .i64 (i : Int) ∧ i + kq = n ∧ Aside0 (MkOwn wr (w.heap.size + 2) (w.heap.size + 2) (.slice none 0 0) (.slice none 0 0) (.string ⟨#[]⟩) (.string ⟨#[]⟩) (.string ⟨#[]⟩) c.f4.f0 c.f1 (.int .i64 0) (.int .i64 0) (.int .i64 0) (.int .i64 0) (.int .i64 0) (.string ⟨#[]⟩) (.string ⟨#[]⟩) (.string ⟨#[]⟩) (.slice none 0 0) v (passAll c t i)) ∧ Aside0 (Below (w.heap.size + 2) W2 wr))
  case atStart => exact ⟨0, .slice none 0 0, rfl, by omega, HMK, ⟨Below.refl _ _⟩⟩
  case round =>
    obtain ⟨i, v, rfl, hi, HM, HBL⟩ := hrel
    have b0 := (HBL.out.block w.heap.size (by omega)).trans H0.out
    have b1 := (HBL.out.block (w.heap.size + 1) (by omega)).trans H1.out
    by_cases hlt : i < n
    · have hltX : i < c.f8.length := by rw [← HNN.out]; exact hlt
      have HCR := Aside0.mk (Kd.C_below HCA.out ((HAB.out).trans (HBL.out.mono (by omega))))
      obtain ⟨ad, hA, hcell⟩ := int_at HCR.out i hltX
      obtain ⟨x, hx⟩ : ∃ x, c.f8.getD i 0 = x := ⟨_, rfl⟩
      rw [hx] at hcell
      subst hA
      have HBX : Aside0 (Below (w.heap.size + 2) W2 wr.drew) := ⟨HBL.out.trans (below_drew1 (Below.refl _ _))⟩
      have HMX : Aside0 (MkOwn wr.drew (w.heap.size + 2) (w.heap.size + 2) (.slice none 0 0) (.slice none 0 0) (.string ⟨#[]⟩) (.string ⟨#[]⟩) (.string ⟨#[]⟩) c.f4.f0 c.f1 (.int .i64 0) (.int .i64 0) (.int .i64 0) (.int .i64 0) (.int .i64 0) (.string ⟨#[]⟩) (.string ⟨#[]⟩) (.string ⟨#[]⟩) (.slice none 0 0) v (passAll c t i)) := ⟨HM.out.below (below_drew1 (Below.refl _ _)) (Nat.le_trans (by have := HSZ.out; omega) HBL.out.size)⟩
      have HSX : Aside0 (w.heap.size + 2 ≤ wr.drew.heap.size) := ⟨Nat.le_trans (by have := HSZ.out; omega) HBX.out.size⟩
      have HLI : Aside0 ((passAll c t i).length ≤ 1048576) := ⟨by unfold passAll; rw [List.length_map, List.length_range]; have := HLN.out; omega⟩
      have z0 : wr.drew.cell? ⟨w.heap.size, 37, none⟩ = some (.slice (some ad) n c0) := by rw [HNN.out]; exact blk_cell b0 37
      have z1 : wr.drew.cell? ⟨w.heap.size + 1, 0, none⟩ = some (.string t.f0) := blk_cell b1 0
      have z2 : wr.drew.cell? ⟨w.heap.size + 1, 1, none⟩ = some (.string t.f1) := blk_cell b1 1
      have z3 : wr.drew.cell? ⟨w.heap.size + 1, 2, none⟩ = some (.string t.f2) := blk_cell b1 2
      have z4 : wr.drew.cell? (ad.add i) = some (.int .i64 x) := hcell
      have hd : decide ((i : Int) < (n : Int)) = true := decide_eq_true (by omega)
      have hi0 : (0 : Int) ≤ (i : Int) := by omega
      have hi1 : (i : Int) < (n : Int) := by omega
      have hg0 : decide ((i : Int) ≥ 0) = true := decide_eq_true (by omega)
      have HLT := Aside0.mk hlt
      have HX := Aside0.mk hx
      clear b0 b1 hltX hcell hx
      go_wp2_with fail
      refine start_ (n := 12) (S := fun w' => w'.cell? ⟨w.heap.size, 37, none⟩ = some (.slice (some ad) n c0) ∧ w'.cell? ⟨w.heap.size + 1, 0, none⟩ = some (.string t.f0) ∧ w'.cell? ⟨w.heap.size + 1, 1, none⟩ = some (.string t.f1) ∧ w'.cell? ⟨w.heap.size + 1, 2, none⟩ = some (.string t.f2) ∧ w'.cell? (ad.add i) = some (.int .i64 x)) (ds := [11]) #[false, false, false, false, false, false, false, false, false, false, false, false] (by kernel_rfl) rfl rfl ⟨z0, z1, z2, z3, z4⟩ (fun hHeld => ?_)
      generalize wr.drew = X at HMX HSX HBX z0 z1 z2 z3 z4 hHeld ⊢
      refine pure_ (i := 0) (N := some 30) (v := ?_) (a' := ?_) #[true, false, false, false, false, false, false, false, false, false, false, false] rfl rfl (by kernel_rfl) (fun _ _ _ h => h) (Or.inl ⟨by rfl, ?_⟩) ?_ ?_
      rotate_left
      · intro w'
        go_simp
        with_reducible rfl
      rotate_left
      · simp only [Act.put, List.setIfInBounds_toArray, List.set_cons_zero, List.set_cons_succ, i64_w, i32_w]
        rfl
      refine pure_ (i := 2) (N := some 32) (v := ?_) (a' := ?_) #[true, false, true, false, false, false, false, false, false, false, false, false] rfl rfl (by kernel_rfl) (fun _ _ _ h => h) (Or.inl ⟨by rfl, ?_⟩) ?_ ?_
      rotate_left
      · intro w'
        go_simp
        with_reducible rfl
      rotate_left
      · simp only [Act.put, List.setIfInBounds_toArray, List.set_cons_zero, List.set_cons_succ, i64_w, i32_w]
        rfl
      refine pure_ (i := 4) (N := some 34) (v := ?_) (a' := ?_) #[true, false, true, false, true, false, false, false, false, false, false, false] rfl rfl (by kernel_rfl) (fun _ _ _ h => h) (Or.inl ⟨by rfl, ?_⟩) ?_ ?_
      rotate_left
      · intro w'
        go_simp
        with_reducible rfl
      rotate_left
      · simp only [Act.put, List.setIfInBounds_toArray, List.set_cons_zero, List.set_cons_succ, i64_w, i32_w]
        rfl
      refine pure_ (i := 5) (N := some 35) (v := ?_) (a' := ?_) #[true, false, true, false, true, true, false, false, false, false, false, false] rfl rfl (by kernel_rfl) (fun _ _ _ h => h) (Or.inl ⟨by rfl, ?_⟩) ?_ ?_
      rotate_left
      · intro w'
        go_simp
        with_reducible rfl
      rotate_left
      · simp only [Act.put, List.setIfInBounds_toArray, List.set_cons_zero, List.set_cons_succ, i64_w, i32_w]
        rfl
      refine pure_ (i := 7) (N := some 37) (v := ?_) (a' := ?_) #[true, false, true, false, true, true, false, true, false, false, false, false] rfl rfl (by kernel_rfl) (fun _ _ _ h => h) (Or.inl ⟨by rfl, ?_⟩) ?_ ?_
      rotate_left
      · intro w'
        go_simp
        with_reducible rfl
      rotate_left
      · simp only [Act.put, List.setIfInBounds_toArray, List.set_cons_zero, List.set_cons_succ, i64_w, i32_w]
        rfl
      refine take_ (i := 1) (N := some 31) (v := ?_) (a' := ?_) #[true, true, true, false, true, true, false, true, false, false, false, false] rfl rfl (by kernel_rfl) (fun _ _ _ h => h) (Or.inl ⟨by rfl, ?_⟩) hHeld ?_ ?_
      rotate_left
      · rintro w' ⟨s0, s1, s2, s3, s4⟩
        go_simp
        with_reducible rfl
      rotate_left
      · simp only [Act.put, List.setIfInBounds_toArray, List.set_cons_zero, List.set_cons_succ, i64_w, i32_w]
        rfl
      refine take_ (i := 6) (N := some 36) (v := ?_) (a' := ?_) #[true, true, true, false, true, true, true, true, false, false, false, false] rfl rfl (by kernel_rfl) (fun _ _ _ h => h) (Or.inl ⟨by rfl, ?_⟩) hHeld ?_ ?_
      rotate_left
      · rintro w' ⟨s0, s1, s2, s3, s4⟩
        go_simp
        with_reducible rfl
      rotate_left
      · simp only [Act.put, List.setIfInBounds_toArray, List.set_cons_zero, List.set_cons_succ, i64_w, i32_w]
        rfl
      refine pure_ (i := 8) (N := some 38) (v := ?_) (a' := ?_) #[true, true, true, false, true, true, true, true, true, false, false, false] rfl rfl (by kernel_rfl) (fun _ _ _ h => h) (Or.inl ⟨by rfl, ?_⟩) ?_ ?_
      rotate_left
      · intro w'
        go_simp
        with_reducible rfl
      rotate_left
      · simp only [Act.put, List.setIfInBounds_toArray, List.set_cons_zero, List.set_cons_succ, i64_w, i32_w]
        rfl
      refine take_ (i := 9) (N := some 39) (v := ?_) (a' := ?_) #[true, true, true, false, true, true, true, true, true, true, false, false] rfl rfl (by kernel_rfl) (fun _ _ _ h => h) (Or.inl ⟨by rfl, ?_⟩) hHeld ?_ ?_
      rotate_left
      · rintro w' ⟨s0, s1, s2, s3, s4⟩
        go_simp
        with_reducible rfl
      rotate_left
      · simp only [Act.put, List.setIfInBounds_toArray, List.set_cons_zero, List.set_cons_succ, i64_w, i32_w]
        rfl
      refine one_ (i := 3) (N := some 33) #[true, true, true, true, true, true, true, true, true, true, false, false] rfl rfl (by kernel_rfl) (by decide) (fun K hK => ?_)
      refine goes_ Try.func13 (by kernel_rfl) rfl #[.agg #[.string t.f0, .string t.f1, .string t.f2], .int .i64 (i : Int)] (by rfl) rfl rfl (by (try simp only [List.map_toArray, List.map_cons, List.map_nil]); first | done | rfl) ?_
      refine (Q43.gen_Reg.calls t.f0 t.f1 t.f2 (i : Int) 1 t.f0 t.f1 t.f2 (i : Int) ⟨#[]⟩ ⟨#[]⟩ ⟨#[]⟩ ⟨#[]⟩ ⟨#[]⟩ 0 ⟨#[]⟩ X rfl).mono ?_
      rintro e w4 ⟨rfl, hb⟩
      refine ⟨_, rfl, ?_⟩
      have y0 := (hb.cell (World.block_lt_of_cell? _ _ z0)).trans z0
      have y1 := (hb.cell (World.block_lt_of_cell? _ _ z1)).trans z1
      have y2 := (hb.cell (World.block_lt_of_cell? _ _ z2)).trans z2
      have y3 := (hb.cell (World.block_lt_of_cell? _ _ z3)).trans z3
      have y4 := (hb.cell (World.block_lt_of_cell? _ _ z4)).trans z4
      have HM4 := Aside0.mk (HMX.out.below hb HSX.out)
      have HB4 := Aside0.mk hb
      clear hb
      refine hK.out _ _ ⟨y0, y1, y2, y3, y4⟩ (fun hHeld => ?_)
      clear hK K
      refine norm_ (a' := ?_) ?_ ?_
      rotate_left
      · show Act.put _ (some 33) _ = _
        simp only [Act.put, List.setIfInBounds_toArray, List.set_cons_zero, List.set_cons_succ, i64_w, i32_w]
        rfl
      refine one_ (i := 10) (N := some 40) #[true, true, true, true, true, true, true, true, true, true, true, false] rfl rfl (by kernel_rfl) (by decide) (fun K hK => ?_)
      refine goes_ Try.func38 (by kernel_rfl) rfl #[.pointer (some ⟨w.heap.size + 2, 0, none⟩), .int .i64 x] (by rfl) rfl rfl (by (try simp only [List.map_toArray, List.map_cons, List.map_nil]); first | done | rfl) ?_
      refine (maker_reg (w.heap.size + 2) (.slice none 0 0) (.slice none 0 0) (.string ⟨#[]⟩) (.string ⟨#[]⟩) (.string ⟨#[]⟩) c.f4.f0 c.f1 (.int .i64 0) (.int .i64 0) (.int .i64 0) (.int .i64 0) (.int .i64 0) (.string ⟨#[]⟩) (.string ⟨#[]⟩) (.string ⟨#[]⟩) (.slice none 0 0) v x w4 HM4.out.b).mono ?_
      rintro e w5 ⟨rfl, hb⟩
      refine ⟨_, rfl, ?_⟩
      have x0 := (hb.cell (World.block_lt_of_cell? _ _ y0)).trans y0
      have x1 := (hb.cell (World.block_lt_of_cell? _ _ y1)).trans y1
      have x2 := (hb.cell (World.block_lt_of_cell? _ _ y2)).trans y2
      have x3 := (hb.cell (World.block_lt_of_cell? _ _ y3)).trans y3
      have x4 := (hb.cell (World.block_lt_of_cell? _ _ y4)).trans y4
      have HM5 := Aside0.mk (HM4.out.below hb (Nat.le_trans HSX.out HB4.out.size))
      have HB5 := Aside0.mk (below_step HB4.out hb)
      clear hb
      refine hK.out _ _ ⟨x0, x1, x2, x3, x4⟩ (fun hHeld => ?_)
      clear hK K
      refine norm_ (a' := ?_) ?_ ?_
      rotate_left
      · show Act.put _ (some 40) _ = _
        simp only [Act.put, List.setIfInBounds_toArray, List.set_cons_zero, List.set_cons_succ, i64_w, i32_w]
        rfl
      refine last_ (i := 11) (N := some 41) #[true, true, true, true, true, true, true, true, true, true, true, true] rfl rfl (by kernel_rfl) (by decide) (fun K hK => ?_)
      refine goes_ Try.func37 (by kernel_rfl) rfl #[.pointer (some ⟨w.heap.size + 2, 0, none⟩), .agg #[.int .i64 1, .string t.f0, .string t.f1, .string t.f2, .int .i64 (i : Int), .string ⟨#[]⟩, .string ⟨#[]⟩, .string ⟨#[]⟩, .string ⟨#[]⟩, .string ⟨#[]⟩, .int .i64 0, .string ⟨#[]⟩], .agg #[.int .i64 1, .string c.f4.f0.f0, .string c.f4.f0.f1, .string c.f4.f0.f2, .int .i64 x, .string ⟨#[]⟩, .string ⟨#[]⟩, .string ⟨#[]⟩, .string ⟨#[]⟩, .string ⟨#[]⟩, .int .i64 0, .string ⟨#[]⟩], .string ⟨#[]⟩] (by rfl) rfl rfl (by (try simp only [List.map_toArray, List.map_cons, List.map_nil]); first | done | rfl) ?_
      refine (maker_flows (w.heap.size + 2) (w.heap.size + 2) (.slice none 0 0) (.slice none 0 0) (.string ⟨#[]⟩) (.string ⟨#[]⟩) (.string ⟨#[]⟩) c.f4.f0 c.f1 (.int .i64 0) (.int .i64 0) (.int .i64 0) (.int .i64 0) (.int .i64 0) (.string ⟨#[]⟩) (.string ⟨#[]⟩) (.string ⟨#[]⟩) (.slice none 0 0) v (passAll c t i) (⟨1, t, (i : Int), z44, z46⟩ : S50) (⟨1, c.f4.f0, x, z44, z46⟩ : S50) ⟨#[]⟩ w5 HM5.out HLI.out (Nat.le_trans HSX.out HB5.out.size)).mono ?_
      rintro e w6 ⟨v6, rfl, hm6, hb6, hk6⟩
      refine ⟨_, rfl, ?_⟩
      have HM6 := Aside0.mk hm6
      have HB6 := Aside0.mk (HBX.out.trans ((HB5.out.mono HSX.out).trans hb6))
      clear hm6 hb6 hk6
      refine hK.out _ _ ?_
      clear hK K
      refine norm_ (a' := ?_) ?_ ?_
      rotate_left
      · show Act.put _ (some 41) _ = _
        simp only [Act.put, List.setIfInBounds_toArray, List.set_cons_zero, List.set_cons_succ, i64_w, i32_w]
        rfl
      refine done_ (by kernel_rfl) ?_
      go_wp2_with fail
      go_roundg (gk - 1)
      case measure => omega
      case rel => exact ⟨i + 1, v6, by rw [show wrap64 ((i : Int) + 1) = ((i + 1 : Nat) : Int) from by have h1 := HLN.out; have h2 := HNN.out; have h3 := HLT.out; unfold wrap64; omega], by omega, ⟨by rw [passAll_succ]; unfold passL; rw [HX.out]; exact HM6.out⟩, HB6⟩
    · have hd : decide ((i : Int) < (n : Int)) = false := decide_eq_false (by omega)
      obtain rfl : i = n := by omega
      have e2 : wr.cell? ⟨w.heap.size, 2, none⟩ = some (.int .i64 c.f2.f0) := blk_cell b0 2
      have s18 : wr.cell? ⟨w.heap.size + 2, 18, none⟩ = some v := blk_cell HM.out.b 18
      have HFIN := Aside0.mk (Kd.R_lower HM.out.r (show w.heap.size ≤ w.heap.size + 2 by omega))
      have HBF := Aside0.mk (HAB.out.trans (HBL.out.mono (show w.heap.size ≤ w.heap.size + 2 by omega)))
      clear b0 b1
      go_wp2_with fail
      exact bodyPost_ret (results_tmp rfl _ _ _) rfl ⟨v, rfl, by rw [← HNN.out]; exact HFIN.out, HBF.out⟩
end Go.Proofs.Ytfplcohjnlbfjaa.Hand
end

section
namespace Go.Proofs.Ytfplcohjnlbfjaa.Hand
open Go.RowKit Go.Proofs.YtfplcohjnlbfjaaW.PrintWords Go.Proofs.YtfplcohjnlbfjaaW.PrintLast Go.Proofs.YtfplcohjnlbfjaaW.PrintMore
set_option linter.unusedVariables false
set_option linter.unusedSimpArgs false
set_option maxRecDepth 20000
theorem row_of {α : Type} {kd : Kd α} {w : World} {g : Nat} {t : TypeId} {xs : List α} {cells : Array Value} (h : w.heap[g]? = some (Obj.cells cells t (0, 0))) (hn : xs.length ≤ 9223372036854775807)
    (hsz : cells.size = xs.length * kd.sz) (hk : ∀ j p, xs[j]? = some p → kd.K w p ((cells.toList.drop (j * kd.sz)).take kd.sz)) : Kd.C kd w (some ⟨g, 0, none⟩) xs.length xs := by
  refine ⟨rfl, hn, fun _ => ⟨⟨g, 0, none⟩, rfl, fun j p hj => ?_⟩⟩
  have hjl := (List.getElem?_eq_some_iff.1 hj).1
  refine ⟨(cells.toList.drop (j * kd.sz)).take kd.sz, ?_, hk j p hj, fun i u hu => ?_⟩
  · rw [List.length_take, List.length_drop, Array.length_toList, hsz]
    have h1 : (j + 1) * kd.sz ≤ xs.length * kd.sz := Nat.mul_le_mul_right _ hjl
    rw [Nat.succ_mul] at h1
    omega
  · rw [List.getElem?_take] at hu
    split at hu
    · rw [List.getElem?_drop, Array.getElem?_toList] at hu
      have hb := blk_cell h (j * kd.sz + i)
      rw [hu] at hb
      have ha : (⟨g, 0, none⟩ : Addr).add (j * kd.sz + i) = ⟨g, j * kd.sz + i, none⟩ := by unfold Addr.add; split <;> simp_all
      exact ha ▸ hb
    · cases hu
def liveI0 : S74 := ⟨9, 0, 0, 0, 0, ⟨#[65]⟩, ⟨#[]⟩, ⟨#[]⟩, []⟩
def liveI1 : S74 := ⟨25, 1, 0, 0, 0, ⟨#[65]⟩, ⟨#[]⟩, ⟨#[]⟩, []⟩
def liveI2 : S74 := ⟨23, 0, 0, 0, 0, ⟨#[]⟩, ⟨#[]⟩, ⟨#[]⟩, []⟩
def liveM : S37 := ⟨⟨#[109]⟩, ⟨#[40, 41, 86]⟩, true, false, 2, [liveI0, liveI1, liveI2]⟩
def liveC : S33 := ⟨⟨#[65]⟩, ⟨#[]⟩, false, false, [], [], [liveM]⟩
theorem live_row {w : World} {gK gM gC : Nat} (hK : w.heap[gK]? = some (Obj.cells #[.int .i64 9, .int .i64 0, .int .i64 0, .int .i64 0, .int .i64 0, .string ⟨#[65]⟩, .string ⟨#[]⟩, .string ⟨#[]⟩, .slice none 0 0, .int .i64 25, .int .i64 1, .int .i64 0, .int .i64 0, .int .i64 0, .string ⟨#[65]⟩, .string ⟨#[]⟩, .string ⟨#[]⟩, .slice none 0 0, .int .i64 23, .int .i64 0, .int .i64 0, .int .i64 0, .int .i64 0, .string ⟨#[]⟩, .string ⟨#[]⟩, .string ⟨#[]⟩, .slice none 0 0] 74)) (hM : w.heap[gM]? = some (Obj.cells #[.string ⟨#[109]⟩, .string ⟨#[40, 41, 86]⟩, .bool true, .bool false, .int .i64 2, .slice (some ⟨gK, 0, none⟩) 3 3] 37)) (hC : w.heap[gC]? = some (Obj.cells #[.string ⟨#[65]⟩, .string ⟨#[]⟩, .bool false, .bool false, .slice none 0 0, .slice none 0 0, .slice (some ⟨gM, 0, none⟩) 1 1] 33)) : Kd.C k33 w (some ⟨gC, 0, none⟩) [liveC].length [liveC] := by
  have h1 : Kd.C k74 w (some ⟨gK, 0, none⟩) [liveI0, liveI1, liveI2].length [liveI0, liveI1, liveI2] := row_of hK (by decide) rfl (fun j p hj => by
    match j, hj with
    | 0, hj => obtain rfl : liveI0 = p := by simpa using hj
               exact k74_mk w liveI0 (A8 := none) (c8 := 0) (Nat.le_refl _) (Kd.C_nil _ _)
    | 1, hj => obtain rfl : liveI1 = p := by simpa using hj
               exact k74_mk w liveI1 (A8 := none) (c8 := 0) (Nat.le_refl _) (Kd.C_nil _ _)
    | 2, hj => obtain rfl : liveI2 = p := by simpa using hj
               exact k74_mk w liveI2 (A8 := none) (c8 := 0) (Nat.le_refl _) (Kd.C_nil _ _)
    | j + 3, hj => simp at hj)
  have h2 : Kd.C k37 w (some ⟨gM, 0, none⟩) [liveM].length [liveM] := row_of hM (by decide) rfl (fun j p hj => by
    match j, hj with
    | 0, hj => obtain rfl : liveM = p := by simpa using hj
               exact k37_mk w liveM (A5 := some ⟨gK, 0, none⟩) (c5 := 3) (Nat.le_refl _) h1
    | j + 1, hj => simp at hj)
  exact row_of hC (by decide) rfl (fun j p hj => by
    match j, hj with
    | 0, hj => obtain rfl : liveC = p := by simpa using hj
               exact k33_mk w liveC (A4 := none) (c4 := 0) (Nat.le_refl _) (Kd.C_nil _ _) (A5 := none) (c5 := 0) (Nat.le_refl _) (Kd.C_nil _ _) (A6 := some ⟨gM, 0, none⟩) (c6 := 1) (Nat.le_refl _) h2
    | j + 1, hj => simp at hj)
theorem live_rowF {w : World} {gK gM gC : Nat} (hK : w.heap[gK]? = some (Obj.cells #[.int .i64 9, .int .i64 0, .int .i64 0, .int .i64 0, .int .i64 0, .string ⟨#[65]⟩, .string ⟨#[]⟩, .string ⟨#[]⟩, .slice none 0 0, .int .i64 25, .int .i64 1, .int .i64 0, .int .i64 0, .int .i64 0, .string ⟨#[65]⟩, .string ⟨#[]⟩, .string ⟨#[]⟩, .slice none 0 0, .int .i64 23, .int .i64 0, .int .i64 0, .int .i64 0, .int .i64 0, .string ⟨#[]⟩, .string ⟨#[]⟩, .string ⟨#[]⟩, .slice none 0 0] 74)) (hM : w.heap[gM]? = some (Obj.cells #[.string ⟨#[109]⟩, .string ⟨#[40, 41, 86]⟩, .bool true, .bool false, .int .i64 2, .slice (some ⟨gK, 0, none⟩) 3 3] 37)) (hC : w.heap[gC]? = some (Obj.cells #[.string ⟨#[65]⟩, .string ⟨#[]⟩, .bool false, .bool false, .slice none 0 0, .slice none 0 0, .slice (some ⟨gM, 0, none⟩) 1 1] 33)) : Kd.F k33 w (fun _ => True) (some ⟨gC, 0, none⟩) [liveC].length [liveC] := fun W' hW =>
  live_row ((hW gK trivial (blk_lt hK)).trans hK) ((hW gM trivial (blk_lt hM)).trans hM) ((hW gC trivial (blk_lt hC)).trans hC)
def lm : S25 := ⟨⟨#[65]⟩, ⟨#[109]⟩, ⟨#[40, 41, 86]⟩⟩
def liveL (i : Nat) : List S60 := match i with
  | 0 => [⟨7, 0, z50, z50, ⟨lm, 0, ⟨#[]⟩⟩, z44, ⟨#[65]⟩, z25, []⟩, ⟨1, 0, ⟨1, lm, 0, z44, z46⟩, z50, ⟨lm, 0, ⟨#[65]⟩⟩, z44, ⟨#[]⟩, z25, []⟩]
  | 1 => [⟨2, 1, ⟨1, lm, 1, z44, z46⟩, ⟨1, lm, 0, z44, z46⟩, ⟨lm, 0, ⟨#[]⟩⟩, z44, ⟨#[65]⟩, z25, []⟩]
  | _ => []
theorem live_get : getM [liveC] ⟨#[65]⟩ ⟨#[109]⟩ ⟨#[40, 41, 86]⟩ = liveM := by kernel_rfl
theorem live_puts (a0 a1 a2 a3 a4 : Value) : ∀ i (h : i < liveM.f5.length), Puts a0 a1 a2 a3 a4 lm (i : Int) (liveM.f5[i]) (liveL i) := fun i h => by
  match i, h with
  | 0, h => exact fun g A8 c8 v l W hm _ _ hl hg => (instr_new g g a0 a1 a2 a3 a4 lm 0 0 0 0 0 ⟨#[65]⟩ ⟨#[]⟩ ⟨#[]⟩ A8 0 c8 v l W hm hl hg).mono (fun e w' ⟨v', he, h1, h2, _⟩ => ⟨v', he, by rw [List.append_assoc] at h1; exact h1, h2⟩)
  | 1, h => exact fun g A8 c8 v l W hm _ _ hl hg => (instr_cast g g a0 a1 a2 a3 a4 lm 1 1 0 0 0 ⟨#[65]⟩ ⟨#[]⟩ ⟨#[]⟩ A8 0 c8 v l W hm hl hg).mono (fun e w' ⟨v', he, h1, h2, _⟩ => ⟨v', he, h1, h2⟩)
  | 2, h => exact fun g A8 c8 v l W hm _ _ hl hg => (instr_end g g a0 a1 a2 a3 a4 lm 2 0 0 0 0 ⟨#[]⟩ ⟨#[]⟩ ⟨#[]⟩ A8 0 c8 v l W hm hl hg).mono (fun e w' ⟨v', he, h1, h2, _⟩ => ⟨v', he, by show MkOwn _ _ _ _ _ _ _ _ _ _ _ _ _ _ _ _ _ _ _ _ (l ++ []); rw [List.append_nil]; exact h1, h2⟩)
  | i + 3, h => exact absurd h (by show ¬ (i + 3 < 3); omega)
theorem live_len : ∀ i, i ≤ liveM.f5.length → (allOf liveL i).length + 2 ≤ 1048576 := fun i h => by
  match i, h with
  | 0, _ => decide
  | 1, _ => decide
  | 2, _ => decide
  | 3, _ => decide
  | i + 4, h => exact absurd h (by show ¬ (i + 4 ≤ 3); omega)
theorem live_of {W : World} {gK gM gC : Nat} (hK : W.heap[gK]? = some (Obj.cells #[.int .i64 9, .int .i64 0, .int .i64 0, .int .i64 0, .int .i64 0, .string ⟨#[65]⟩, .string ⟨#[]⟩, .string ⟨#[]⟩, .slice none 0 0, .int .i64 25, .int .i64 1, .int .i64 0, .int .i64 0, .int .i64 0, .string ⟨#[65]⟩, .string ⟨#[]⟩, .string ⟨#[]⟩, .slice none 0 0, .int .i64 23, .int .i64 0, .int .i64 0, .int .i64 0, .int .i64 0, .string ⟨#[]⟩, .string ⟨#[]⟩, .string ⟨#[]⟩, .slice none 0 0] 74)) (hM : W.heap[gM]? = some (Obj.cells #[.string ⟨#[109]⟩, .string ⟨#[40, 41, 86]⟩, .bool true, .bool false, .int .i64 2, .slice (some ⟨gK, 0, none⟩) 3 3] 37)) (hC : W.heap[gC]? = some (Obj.cells #[.string ⟨#[65]⟩, .string ⟨#[]⟩, .bool false, .bool false, .slice none 0 0, .slice none 0 0, .slice (some ⟨gM, 0, none⟩) 1 1] 33)) :
    Calls Try.prog 29 #[.agg #[.slice (some ⟨gC, 0, none⟩) 1 1, .slice none 0 0, .string ⟨#[]⟩, .string ⟨#[]⟩, .string ⟨#[]⟩], .agg #[.string ⟨#[65]⟩, .string ⟨#[109]⟩, .string ⟨#[40, 41, 86]⟩]] W fun e w' => ∃ v', e = .returned v' ∧ Kd.R k60 60 w' W.heap.size (fun _ => True) v' (allOf liveL 3) ∧ Below W.heap.size W w' := by
  have h := gen_of (fun _ => True) (some ⟨gC, 0, none⟩) 1 [liveC] none 0 [] ⟨#[]⟩ ⟨#[]⟩ ⟨#[]⟩ ⟨#[65]⟩ ⟨#[109]⟩ ⟨#[40, 41, 86]⟩ W (live_rowF hK hM hC) (Nat.le_refl _) (Kd.C_nil _ _) (Nat.le_refl _) liveL (by rw [live_get]; exact live_puts _ _ _ _ _) (by rw [live_get]; exact live_len)
  rw [live_get] at h
  exact h
def liveP : S60 := ⟨9, 0, z50, z50, z46, z44, ⟨#[]⟩, z25, [0, 1]⟩
theorem live_pass (W : World) : Calls Try.prog 24 #[.agg (List.toArray ((.int .i64 9) :: (.int .i64 0) :: (.int .i64 0) :: (.string ⟨#[]⟩) :: (.string ⟨#[]⟩) :: (.string ⟨#[]⟩) :: (.int .i64 0) :: (.string ⟨#[]⟩) :: [.string ⟨#[]⟩, .string ⟨#[]⟩, .string ⟨#[]⟩, .string ⟨#[]⟩, .int .i64 0, .string ⟨#[]⟩, .int .i64 0, .string ⟨#[]⟩, .string ⟨#[]⟩, .string ⟨#[]⟩, .int .i64 0, .string ⟨#[]⟩, .string ⟨#[]⟩, .string ⟨#[]⟩, .string ⟨#[]⟩, .string ⟨#[]⟩, .int .i64 0, .string ⟨#[]⟩, .string ⟨#[]⟩, .string ⟨#[]⟩, .string ⟨#[]⟩, .int .i64 0, .string ⟨#[]⟩, .string ⟨#[]⟩, .string ⟨#[]⟩, .string ⟨#[]⟩, .string ⟨#[]⟩, .string ⟨#[]⟩, .string ⟨#[]⟩, .slice (some ⟨W.heap.size, 0, none⟩) 2 2])), .agg #[.string ⟨#[65]⟩, .string ⟨#[109]⟩, .string ⟨#[40, 41, 86]⟩]] (W.alloc (Obj.cells #[.int .i64 0, .int .i64 1] 3)) fun e w' => ∃ v', e = .returned v' ∧ Kd.R k60 60 w' (W.alloc (Obj.cells #[.int .i64 0, .int .i64 1] 3)).heap.size (fun _ => True) v' (passAll liveP lm 2) ∧ Below (W.alloc (Obj.cells #[.int .i64 0, .int .i64 1] 3)).heap.size (W.alloc (Obj.cells #[.int .i64 0, .int .i64 1] 3)) w' :=
  gen_pass liveP (some ⟨W.heap.size, 0, none⟩) 2 lm (W.alloc (Obj.cells #[.int .i64 0, .int .i64 1] 3)) rfl rfl
    (row_of (xs := [0, 1]) (World.alloc_heap_new W _) (by decide) rfl (fun j p hj => by
      match j, hj with
      | 0, hj => obtain rfl : (0 : Int) = p := by simpa using hj
                 rfl
      | 1, hj => obtain rfl : (1 : Int) = p := by simpa using hj
                 rfl
      | j + 2, hj => simp at hj)) (Nat.le_refl _) (by decide)
structure L7 (W : World) (n0 n1 n2 : Nat) (ad : Addr) : Prop where
  m : W.heap[n0]? = some (Obj.cells #[.string ⟨#[65]⟩, .string ⟨#[109]⟩, .string ⟨#[40, 41, 86]⟩] 25)
  s : W.heap[n1]? = some (Obj.cells #[.string ⟨#[65]⟩, .string ⟨#[109]⟩, .string ⟨#[40, 41, 86]⟩, .int .i64 0, .string ⟨#[65]⟩] 46)
  f : W.heap[n2]? = some (Obj.cells #[.string ⟨#[65]⟩, .string ⟨#[102]⟩] 44)
  r : Kd.C k60 W (some ad) 3 (allOf liveL 3)
theorem L7.below {W W' : World} {n0 n1 n2 : Nat} {ad : Addr} (h : L7 W n0 n1 n2 ad) (hb : Below W.heap.size W W') : L7 W' n0 n1 n2 ad := ⟨blk_below h.m hb, blk_below h.s hb, blk_below h.f hb, Kd.C_below h.r hb⟩
theorem L7.S {W : World} {n0 n1 n2 : Nat} {ad : Addr} (h : L7 W n0 n1 n2 ad) : W.cell? ⟨n0, 0, none⟩ = some (.string ⟨#[65]⟩) ∧ W.cell? ⟨n0, 1, none⟩ = some (.string ⟨#[109]⟩) ∧ W.cell? ⟨n0, 2, none⟩ = some (.string ⟨#[40, 41, 86]⟩) ∧ W.cell? ⟨n1, 0, none⟩ = some (.string ⟨#[65]⟩) ∧ W.cell? ⟨n1, 1, none⟩ = some (.string ⟨#[109]⟩) ∧ W.cell? ⟨n1, 2, none⟩ = some (.string ⟨#[40, 41, 86]⟩) ∧ W.cell? ⟨n1, 3, none⟩ = some (.int .i64 0) ∧ W.cell? ⟨n1, 4, none⟩ = some (.string ⟨#[65]⟩) ∧ W.cell? ⟨n2, 0, none⟩ = some (.string ⟨#[65]⟩) ∧ W.cell? ⟨n2, 1, none⟩ = some (.string ⟨#[102]⟩) ∧ W.cell? ad = some (.int .i64 7) ∧ W.cell? ⟨ad.block, ad.off + 38, none⟩ = some (.int .i64 1) ∧ W.cell? ⟨ad.block, ad.off + 38 + 26, none⟩ = some (.string ⟨#[65]⟩) ∧ W.cell? ⟨ad.block, ad.off + 38 + 27, none⟩ = some (.string ⟨#[109]⟩) ∧ W.cell? ⟨ad.block, ad.off + 38 + 28, none⟩ = some (.string ⟨#[40, 41, 86]⟩) ∧ W.cell? ⟨ad.block, ad.off + 38 + 29, none⟩ = some (.int .i64 0) ∧ W.cell? ⟨ad.block, ad.off + 38 + 30, none⟩ = some (.string ⟨#[65]⟩) ∧ W.cell? ⟨ad.block, ad.off + 76 + 33, none⟩ = some (.string ⟨#[65]⟩) ∧ W.cell? ⟨ad.block, ad.off + 76 + 2, none⟩ = some (.int .i64 1) ∧ W.cell? ⟨ad.block, ad.off + 76 + 3, none⟩ = some (.string ⟨#[65]⟩) ∧ W.cell? ⟨ad.block, ad.off + 76 + 4, none⟩ = some (.string ⟨#[109]⟩) ∧ W.cell? ⟨ad.block, ad.off + 76 + 5, none⟩ = some (.string ⟨#[40, 41, 86]⟩) ∧ W.cell? ⟨ad.block, ad.off + 76 + 6, none⟩ = some (.int .i64 1) ∧ W.cell? ⟨ad.block, ad.off + 76 + 7, none⟩ = some (.string ⟨#[]⟩) ∧ W.cell? ⟨ad.block, ad.off + 76 + 8, none⟩ = some (.string ⟨#[]⟩) ∧ W.cell? ⟨ad.block, ad.off + 76 + 9, none⟩ = some (.string ⟨#[]⟩) ∧ W.cell? ⟨ad.block, ad.off + 76 + 10, none⟩ = some (.string ⟨#[]⟩) ∧ W.cell? ⟨ad.block, ad.off + 76 + 11, none⟩ = some (.string ⟨#[]⟩) ∧ W.cell? ⟨ad.block, ad.off + 76 + 12, none⟩ = some (.int .i64 0) ∧ W.cell? ⟨ad.block, ad.off + 76 + 13, none⟩ = some (.string ⟨#[]⟩) := by
  obtain ⟨a0, _, _, h0, x0, x1, x2, x3, x4, x5, x6, x7, x8, x9, x10, x11, x12, x13, x14, x15, x16, x17, x18, x19, x20, x21, x22, x23, x24, x25, x26, x27, x28, x29, x30, x31, x32, x33, x34, x35, x36, x37, _⟩ := at_T60 h.r 0 (by decide) (by decide)
  obtain ⟨a1, _, _, h1, y0, y1, y2, y3, y4, y5, y6, y7, y8, y9, y10, y11, y12, y13, y14, y15, y16, y17, y18, y19, y20, y21, y22, y23, y24, y25, y26, y27, y28, y29, y30, y31, y32, y33, y34, y35, y36, y37, _⟩ := at_T60 h.r 1 (by decide) (by decide)
  obtain ⟨a2, _, _, h2, z0, z1, z2, z3, z4, z5, z6, z7, z8, z9, z10, z11, z12, z13, z14, z15, z16, z17, z18, z19, z20, z21, z22, z23, z24, z25, z26, z27, z28, z29, z30, z31, z32, z33, z34, z35, z36, z37, _⟩ := at_T60 h.r 2 (by decide) (by decide)
  obtain rfl := Option.some.inj h0
  obtain rfl := Option.some.inj h1
  obtain rfl := Option.some.inj h2
  exact ⟨blk_cell h.m 0, blk_cell h.m 1, blk_cell h.m 2, blk_cell h.s 0, blk_cell h.s 1, blk_cell h.s 2, blk_cell h.s 3, blk_cell h.s 4, blk_cell h.f 0, blk_cell h.f 1, x0, y0, y26, y27, y28, y29, y30, z33, z2, z3, z4, z5, z6, z7, z8, z9, z10, z11, z12, z13⟩
theorem fld_0 (W : World) (a b c d e f g h i j k l : Value) : Sem.run Try.prog (Instr.field 50 (.agg #[a,b,c,d,e,f,g,h,i,j,k,l]) 0) W = .ok a W := by kernel_rfl
theorem fld_3 (W : World) (a b c d e f g h i j k l : Value) : Sem.run Try.prog (Instr.field 50 (.agg #[a,b,c,d,e,f,g,h,i,j,k,l]) 3) W = .ok (.agg #[f,g]) W := by kernel_rfl
theorem fld_4 (W : World) (a b c d e f g h i j k l : Value) : Sem.run Try.prog (Instr.field 50 (.agg #[a,b,c,d,e,f,g,h,i,j,k,l]) 4) W = .ok (.agg #[h,i,j,k,l]) W := by kernel_rfl
set_option maxHeartbeats 64000000 in
theorem gen_live (w : World) : Calls Try.prog 12 #[] w fun e w' => e = .returned (.bool true) ∧ Below w.heap.size w w' := by
  have hb0 := below_alloc (below_alloc (below_alloc (below_alloc (below_alloc (Below.refl w.heap.size w) (Obj.cells #[.string ⟨#[65]⟩, .string ⟨#[109]⟩, .string ⟨#[40, 41, 86]⟩] 25)) (Obj.cells #[.int .i64 9, .int .i64 0, .int .i64 0, .int .i64 0, .int .i64 0, .string ⟨#[65]⟩, .string ⟨#[]⟩, .string ⟨#[]⟩, .slice none 0 0, .int .i64 25, .int .i64 1, .int .i64 0, .int .i64 0, .int .i64 0, .string ⟨#[65]⟩, .string ⟨#[]⟩, .string ⟨#[]⟩, .slice none 0 0, .int .i64 23, .int .i64 0, .int .i64 0, .int .i64 0, .int .i64 0, .string ⟨#[]⟩, .string ⟨#[]⟩, .string ⟨#[]⟩, .slice none 0 0] 74)) (Obj.cells #[.string ⟨#[109]⟩, .string ⟨#[40, 41, 86]⟩, .bool true, .bool false, .int .i64 2, .slice (some ⟨w.heap.size + 1, 0, none⟩) 3 3] 37)) (Obj.cells #[.string ⟨#[65]⟩, .string ⟨#[]⟩, .bool false, .bool false, .slice none 0 0, .slice none 0 0, .slice (some ⟨w.heap.size + 1 + 1, 0, none⟩) 1 1] 33)) (Obj.cells #[.slice (some ⟨w.heap.size + 1 + 1 + 1, 0, none⟩) 1 1, .slice none 0 0, .string ⟨#[]⟩, .string ⟨#[]⟩, .string ⟨#[]⟩] 27)
  have hm := blk_alloc (blk_alloc (blk_alloc (blk_alloc (World.alloc_heap_new w (Obj.cells #[.string ⟨#[65]⟩, .string ⟨#[109]⟩, .string ⟨#[40, 41, 86]⟩] 25)) (Obj.cells #[.int .i64 9, .int .i64 0, .int .i64 0, .int .i64 0, .int .i64 0, .string ⟨#[65]⟩, .string ⟨#[]⟩, .string ⟨#[]⟩, .slice none 0 0, .int .i64 25, .int .i64 1, .int .i64 0, .int .i64 0, .int .i64 0, .string ⟨#[65]⟩, .string ⟨#[]⟩, .string ⟨#[]⟩, .slice none 0 0, .int .i64 23, .int .i64 0, .int .i64 0, .int .i64 0, .int .i64 0, .string ⟨#[]⟩, .string ⟨#[]⟩, .string ⟨#[]⟩, .slice none 0 0] 74)) (Obj.cells #[.string ⟨#[109]⟩, .string ⟨#[40, 41, 86]⟩, .bool true, .bool false, .int .i64 2, .slice (some ⟨w.heap.size + 1, 0, none⟩) 3 3] 37)) (Obj.cells #[.string ⟨#[65]⟩, .string ⟨#[]⟩, .bool false, .bool false, .slice none 0 0, .slice none 0 0, .slice (some ⟨w.heap.size + 1 + 1, 0, none⟩) 1 1] 33)) (Obj.cells #[.slice (some ⟨w.heap.size + 1 + 1 + 1, 0, none⟩) 1 1, .slice none 0 0, .string ⟨#[]⟩, .string ⟨#[]⟩, .string ⟨#[]⟩] 27)
  have hk := blk_alloc (blk_alloc (blk_alloc (World.alloc_heap_new (w.alloc (Obj.cells #[.string ⟨#[65]⟩, .string ⟨#[109]⟩, .string ⟨#[40, 41, 86]⟩] 25)) (Obj.cells #[.int .i64 9, .int .i64 0, .int .i64 0, .int .i64 0, .int .i64 0, .string ⟨#[65]⟩, .string ⟨#[]⟩, .string ⟨#[]⟩, .slice none 0 0, .int .i64 25, .int .i64 1, .int .i64 0, .int .i64 0, .int .i64 0, .string ⟨#[65]⟩, .string ⟨#[]⟩, .string ⟨#[]⟩, .slice none 0 0, .int .i64 23, .int .i64 0, .int .i64 0, .int .i64 0, .int .i64 0, .string ⟨#[]⟩, .string ⟨#[]⟩, .string ⟨#[]⟩, .slice none 0 0] 74)) (Obj.cells #[.string ⟨#[109]⟩, .string ⟨#[40, 41, 86]⟩, .bool true, .bool false, .int .i64 2, .slice (some ⟨w.heap.size + 1, 0, none⟩) 3 3] 37)) (Obj.cells #[.string ⟨#[65]⟩, .string ⟨#[]⟩, .bool false, .bool false, .slice none 0 0, .slice none 0 0, .slice (some ⟨w.heap.size + 1 + 1, 0, none⟩) 1 1] 33)) (Obj.cells #[.slice (some ⟨w.heap.size + 1 + 1 + 1, 0, none⟩) 1 1, .slice none 0 0, .string ⟨#[]⟩, .string ⟨#[]⟩, .string ⟨#[]⟩] 27)
  have hmm := blk_alloc (blk_alloc (World.alloc_heap_new ((w.alloc (Obj.cells #[.string ⟨#[65]⟩, .string ⟨#[109]⟩, .string ⟨#[40, 41, 86]⟩] 25)).alloc (Obj.cells #[.int .i64 9, .int .i64 0, .int .i64 0, .int .i64 0, .int .i64 0, .string ⟨#[65]⟩, .string ⟨#[]⟩, .string ⟨#[]⟩, .slice none 0 0, .int .i64 25, .int .i64 1, .int .i64 0, .int .i64 0, .int .i64 0, .string ⟨#[65]⟩, .string ⟨#[]⟩, .string ⟨#[]⟩, .slice none 0 0, .int .i64 23, .int .i64 0, .int .i64 0, .int .i64 0, .int .i64 0, .string ⟨#[]⟩, .string ⟨#[]⟩, .string ⟨#[]⟩, .slice none 0 0] 74)) (Obj.cells #[.string ⟨#[109]⟩, .string ⟨#[40, 41, 86]⟩, .bool true, .bool false, .int .i64 2, .slice (some ⟨w.heap.size + 1, 0, none⟩) 3 3] 37)) (Obj.cells #[.string ⟨#[65]⟩, .string ⟨#[]⟩, .bool false, .bool false, .slice none 0 0, .slice none 0 0, .slice (some ⟨w.heap.size + 1 + 1, 0, none⟩) 1 1] 33)) (Obj.cells #[.slice (some ⟨w.heap.size + 1 + 1 + 1, 0, none⟩) 1 1, .slice none 0 0, .string ⟨#[]⟩, .string ⟨#[]⟩, .string ⟨#[]⟩] 27)
  have hcc := blk_alloc (World.alloc_heap_new (((w.alloc (Obj.cells #[.string ⟨#[65]⟩, .string ⟨#[109]⟩, .string ⟨#[40, 41, 86]⟩] 25)).alloc (Obj.cells #[.int .i64 9, .int .i64 0, .int .i64 0, .int .i64 0, .int .i64 0, .string ⟨#[65]⟩, .string ⟨#[]⟩, .string ⟨#[]⟩, .slice none 0 0, .int .i64 25, .int .i64 1, .int .i64 0, .int .i64 0, .int .i64 0, .string ⟨#[65]⟩, .string ⟨#[]⟩, .string ⟨#[]⟩, .slice none 0 0, .int .i64 23, .int .i64 0, .int .i64 0, .int .i64 0, .int .i64 0, .string ⟨#[]⟩, .string ⟨#[]⟩, .string ⟨#[]⟩, .slice none 0 0] 74)).alloc (Obj.cells #[.string ⟨#[109]⟩, .string ⟨#[40, 41, 86]⟩, .bool true, .bool false, .int .i64 2, .slice (some ⟨w.heap.size + 1, 0, none⟩) 3 3] 37)) (Obj.cells #[.string ⟨#[65]⟩, .string ⟨#[]⟩, .bool false, .bool false, .slice none 0 0, .slice none 0 0, .slice (some ⟨w.heap.size + 1 + 1, 0, none⟩) 1 1] 33)) (Obj.cells #[.slice (some ⟨w.heap.size + 1 + 1 + 1, 0, none⟩) 1 1, .slice none 0 0, .string ⟨#[]⟩, .string ⟨#[]⟩, .string ⟨#[]⟩] 27)
  simp only [World.size_alloc] at hk hmm hcc
  have HOF := Aside0.mk (live_of hk hmm hcc)
  have HB0 := Aside0.mk hb0
  have HM0 := Aside0.mk hm
  clear hb0 hm hk hmm hcc
  go_enter Try.func12, Try.ntmps12
  go_wp2_with fail
  refine HOF.out.mono ?_
  rintro e w1 ⟨v1, rfl, hR, hb⟩
  obtain ⟨A1, c1, hv, hc1, hC1⟩ := Kd.R_reads hR
  obtain rfl : v1 = .slice A1 3 c1 := hv
  have HB1 := Aside0.mk (below_step HB0.out hb)
  have HM1 := Aside0.mk (blk_below HM0.out hb)
  obtain ⟨q0, q1, q2⟩ := cells3 HM1.out
  have HC1 := Aside0.mk hC1
  have HCC := Aside0.mk hc1
  clear hR hb hC1 hc1
  go_wp2_with fail
  have HMa := Aside0.mk (blk_alloc (blk_alloc HM1.out (Obj.cells #[.string ⟨#[65]⟩, .string ⟨#[109]⟩, .string ⟨#[40, 41, 86]⟩, .int .i64 0, .string ⟨#[65]⟩] 46)) (Obj.cells #[.string ⟨#[65]⟩, .string ⟨#[102]⟩] 44))
  have HSa := Aside0.mk (blk_alloc (World.alloc_heap_new w1 (Obj.cells #[.string ⟨#[65]⟩, .string ⟨#[109]⟩, .string ⟨#[40, 41, 86]⟩, .int .i64 0, .string ⟨#[65]⟩] 46)) (Obj.cells #[.string ⟨#[65]⟩, .string ⟨#[102]⟩] 44))
  have hfa := World.alloc_heap_new (w1.alloc (Obj.cells #[.string ⟨#[65]⟩, .string ⟨#[109]⟩, .string ⟨#[40, 41, 86]⟩, .int .i64 0, .string ⟨#[65]⟩] 46)) (Obj.cells #[.string ⟨#[65]⟩, .string ⟨#[102]⟩] 44)
  rw [World.size_alloc] at hfa
  have HFa := Aside0.mk hfa
  have HBa := Aside0.mk (below_alloc (below_alloc (Below.refl w1.heap.size w1) (Obj.cells #[.string ⟨#[65]⟩, .string ⟨#[109]⟩, .string ⟨#[40, 41, 86]⟩, .int .i64 0, .string ⟨#[65]⟩] 46)) (Obj.cells #[.string ⟨#[65]⟩, .string ⟨#[102]⟩] 44))
  clear hfa q0 q1 q2
  generalize (w1.alloc (Obj.cells #[.string ⟨#[65]⟩, .string ⟨#[109]⟩, .string ⟨#[40, 41, 86]⟩, .int .i64 0, .string ⟨#[65]⟩] 46)).alloc (Obj.cells #[.string ⟨#[65]⟩, .string ⟨#[102]⟩] 44) = w5 at HMa HSa HFa HBa ⊢
  have HCa := Aside0.mk (Kd.C_below HC1.out HBa.out)
  have hA : A1.isSome := by
    obtain ⟨ad, _, _, hA, _⟩ := at_T60 HCa.out 0 (by decide) (by decide)
    rw [hA]; rfl
  obtain ⟨ad, rfl⟩ := Option.isSome_iff_exists.1 hA
  clear hA
  have HL7 : Aside0 (L7 w5 w.heap.size w1.heap.size (w1.heap.size + 1) ad) := ⟨⟨HMa.out, HSa.out, HFa.out, HCa.out⟩⟩
  have HB5 := Aside0.mk (below_step HB1.out HBa.out)
  clear HMa HSa HFa HCa HBa HC1 HM1 HM0 HOF HCC HB0 HB1
  have hf0 := fld_0
  have hf3 := fld_3
  have hf4 := fld_4
  simp only [List.append]
  go_region_held3? (fun w' => w'.cell? ⟨w.heap.size, 0, none⟩ = some (.string ⟨#[65]⟩) ∧ w'.cell? ⟨w.heap.size, 1, none⟩ = some (.string ⟨#[109]⟩) ∧ w'.cell? ⟨w.heap.size, 2, none⟩ = some (.string ⟨#[40, 41, 86]⟩) ∧ w'.cell? ⟨w1.heap.size, 0, none⟩ = some (.string ⟨#[65]⟩) ∧ w'.cell? ⟨w1.heap.size, 1, none⟩ = some (.string ⟨#[109]⟩) ∧ w'.cell? ⟨w1.heap.size, 2, none⟩ = some (.string ⟨#[40, 41, 86]⟩) ∧ w'.cell? ⟨w1.heap.size, 3, none⟩ = some (.int .i64 0) ∧ w'.cell? ⟨w1.heap.size, 4, none⟩ = some (.string ⟨#[65]⟩) ∧ w'.cell? ⟨(w1.heap.size + 1), 0, none⟩ = some (.string ⟨#[65]⟩) ∧ w'.cell? ⟨(w1.heap.size + 1), 1, none⟩ = some (.string ⟨#[102]⟩) ∧ w'.cell? ad = some (.int .i64 7) ∧ w'.cell? ⟨ad.block, ad.off + 38, none⟩ = some (.int .i64 1) ∧ w'.cell? ⟨ad.block, ad.off + 38 + 26, none⟩ = some (.string ⟨#[65]⟩) ∧ w'.cell? ⟨ad.block, ad.off + 38 + 27, none⟩ = some (.string ⟨#[109]⟩) ∧ w'.cell? ⟨ad.block, ad.off + 38 + 28, none⟩ = some (.string ⟨#[40, 41, 86]⟩) ∧ w'.cell? ⟨ad.block, ad.off + 38 + 29, none⟩ = some (.int .i64 0) ∧ w'.cell? ⟨ad.block, ad.off + 38 + 30, none⟩ = some (.string ⟨#[65]⟩) ∧ w'.cell? ⟨ad.block, ad.off + 76 + 33, none⟩ = some (.string ⟨#[65]⟩) ∧ w'.cell? ⟨ad.block, ad.off + 76 + 2, none⟩ = some (.int .i64 1) ∧ w'.cell? ⟨ad.block, ad.off + 76 + 3, none⟩ = some (.string ⟨#[65]⟩) ∧ w'.cell? ⟨ad.block, ad.off + 76 + 4, none⟩ = some (.string ⟨#[109]⟩) ∧ w'.cell? ⟨ad.block, ad.off + 76 + 5, none⟩ = some (.string ⟨#[40, 41, 86]⟩) ∧ w'.cell? ⟨ad.block, ad.off + 76 + 6, none⟩ = some (.int .i64 1) ∧ w'.cell? ⟨ad.block, ad.off + 76 + 7, none⟩ = some (.string ⟨#[]⟩) ∧ w'.cell? ⟨ad.block, ad.off + 76 + 8, none⟩ = some (.string ⟨#[]⟩) ∧ w'.cell? ⟨ad.block, ad.off + 76 + 9, none⟩ = some (.string ⟨#[]⟩) ∧ w'.cell? ⟨ad.block, ad.off + 76 + 10, none⟩ = some (.string ⟨#[]⟩) ∧ w'.cell? ⟨ad.block, ad.off + 76 + 11, none⟩ = some (.string ⟨#[]⟩) ∧ w'.cell? ⟨ad.block, ad.off + 76 + 12, none⟩ = some (.int .i64 0) ∧ w'.cell? ⟨ad.block, ad.off + 76 + 13, none⟩ = some (.string ⟨#[]⟩)) (first | with_reducible exact (HL7.out.below (below_drew1 (Below.refl _ _))).S | with_reducible exact HL6.out.S | with_reducible exact HL8.out.S | with_reducible exact HL9.out.S | with_reducible exact HL10.out.S | with_reducible exact HL11.out.S | with_reducible exact (HL11.out.below (below_alloc (Below.refl _ _) _)).S | with_reducible exact HL12.out.S | fail "keep") ((first
    | (go_at_call 13; (with_reducible refine (Q43.gen_Reg.calls ⟨#[65]⟩ ⟨#[109]⟩ ⟨#[40, 41, 86]⟩ 1 1 ⟨#[65]⟩ ⟨#[109]⟩ ⟨#[40, 41, 86]⟩ 1 ⟨#[]⟩ ⟨#[]⟩ ⟨#[]⟩ ⟨#[]⟩ ⟨#[]⟩ 0 ⟨#[]⟩ _ rfl).mono ?_); rintro e w6 ⟨rfl, hb⟩; have hb_ := below_step (below_drew1 (Below.refl w5.heap.size w5)) hb; have HL6 := Aside0.mk (HL7.out.below hb_); have HB6 := Aside0.mk (below_step HB5.out hb_); clear hb hb_)
    | (go_at_call 15; (with_reducible refine (Q43.gen_Ret.calls ⟨#[65]⟩ ⟨#[109]⟩ ⟨#[40, 41, 86]⟩ 2 ⟨#[65]⟩ ⟨#[109]⟩ ⟨#[40, 41, 86]⟩ 0 ⟨#[]⟩ ⟨#[]⟩ ⟨#[]⟩ ⟨#[]⟩ ⟨#[]⟩ 0 ⟨#[]⟩ _ rfl).mono ?_); rintro e w7 ⟨rfl, hb⟩; have HL8 := Aside0.mk (HL6.out.below hb); have HB8 := Aside0.mk (below_step HB6.out hb); clear hb)
    | (go_at_call 17; (with_reducible refine (Q43.gen_Static.calls ⟨#[65]⟩ ⟨#[102]⟩ 3 ⟨#[]⟩ ⟨#[]⟩ ⟨#[]⟩ 0 ⟨#[65]⟩ ⟨#[102]⟩ ⟨#[]⟩ ⟨#[]⟩ ⟨#[]⟩ 0 ⟨#[]⟩ _ rfl).mono ?_); rintro e w8 ⟨rfl, hb⟩; have HL9 := Aside0.mk (HL8.out.below hb); have HB9 := Aside0.mk (below_step HB8.out hb); clear hb)
    | (go_at_call 19; (with_reducible refine (Q43.gen_Field.calls ⟨#[65]⟩ ⟨#[109]⟩ ⟨#[40, 41, 86]⟩ 0 ⟨#[65]⟩ ⟨#[65]⟩ ⟨#[102]⟩ 4 ⟨#[]⟩ ⟨#[]⟩ ⟨#[]⟩ 0 ⟨#[65]⟩ ⟨#[102]⟩ ⟨#[65]⟩ ⟨#[109]⟩ ⟨#[40, 41, 86]⟩ 0 ⟨#[65]⟩ _ rfl).mono ?_); rintro e w9 ⟨rfl, hb⟩; have HL10 := Aside0.mk (HL9.out.below hb); have HB10 := Aside0.mk (below_step HB9.out hb); clear hb)
    | (go_at_call 21; (with_reducible refine (Q43.gen_Element.calls ⟨#[65]⟩ ⟨#[109]⟩ ⟨#[40, 41, 86]⟩ 0 ⟨#[65]⟩ 5 ⟨#[]⟩ ⟨#[]⟩ ⟨#[]⟩ 0 ⟨#[]⟩ ⟨#[]⟩ ⟨#[65]⟩ ⟨#[109]⟩ ⟨#[40, 41, 86]⟩ 0 ⟨#[65]⟩ _ rfl).mono ?_); rintro e w10 ⟨rfl, hb⟩; have HL11 := Aside0.mk (HL10.out.below hb); have HB11 := Aside0.mk (below_step HB10.out hb); clear hb)
    | (go_at_call 24; (with_reducible refine (live_pass w10).mono ?_); rintro e w11 ⟨v2, rfl, hR, hb⟩; have hb_ := below_step (below_alloc (Below.refl w10.heap.size w10) (Obj.cells #[.int .i64 0, .int .i64 1] 3)) hb; have HL12 := Aside0.mk (HL11.out.below hb_); have HB12 := Aside0.mk (below_step HB11.out hb_); (obtain ⟨A2, c2, hv, _, _⟩ := Kd.R_reads hR); (obtain rfl : v2 = .slice A2 2 c2 := hv); clear hb hb_ hR)))
  go_wp2_with fail
  exact bodyPost_ret (results_tmp rfl _ _ _) rfl ⟨rfl, HB12.out⟩
end Go.Proofs.Ytfplcohjnlbfjaa.Hand
end

section
namespace Go.Proofs.Ytfplcohjnlbfjaa.Hand
open Go.RowKit Go.Proofs.YtfplcohjnlbfjaaW.PrintWords Go.Proofs.YtfplcohjnlbfjaaW.PrintLast Go.Proofs.YtfplcohjnlbfjaaW.PrintMore
set_option linter.unusedVariables false
set_option linter.unusedSimpArgs false
set_option maxRecDepth 20000
def setAll (cs : Array Value) : Nat → List Value → Array Value
  | _, [] => cs
  | o, v :: vs => setAll (cs.setIfInBounds o v) (o + 1) vs
theorem setCells_blk0 {g : Nat} {t : TypeId} : ∀ (vs : List Value) (o : Nat) (w : World) (cs : Array Value), w.heap[g]? = some (.cells cs t (0, 0)) → (w.setCells g o vs).heap[g]? = some (.cells (setAll cs o vs) t (0, 0))
  | [], _, _, _, h => h
  | v :: vs, o, w, cs, h => setCells_blk0 vs (o + 1) (w.setCell ⟨g, o, none⟩ v) (cs.setIfInBounds o v) (blk_set h o v)
theorem setCells_blk {w : World} {g : Nat} {t : TypeId} {cs cs' : Array Value} (h : w.heap[g]? = some (.cells cs t (0, 0))) (o : Nat) (vs : List Value) (e : setAll cs o vs = cs') : (w.setCells g o vs).heap[g]? = some (.cells cs' t (0, 0)) := e ▸ setCells_blk0 vs o w cs h
theorem setCells_below {n : Nat} {w0 : World} {g : Nat} (hg : n ≤ g) : ∀ (vs : List Value) (o : Nat) (w : World), Below n w0 w → Below n w0 (w.setCells g o vs)
  | [], _, _, h => h
  | v :: vs, o, w, h => setCells_below hg vs (o + 1) (w.setCell ⟨g, o, none⟩ v) (h.setCell (p := ⟨g, o, none⟩) hg v)
theorem setCells_far {g k : Nat} {ob : Option Obj} (hk : k ≠ g) : ∀ (vs : List Value) (o : Nat) (w : World), w.heap[k]? = ob → (w.setCells g o vs).heap[k]? = ob
  | [], _, _, h => h
  | v :: vs, o, w, h => setCells_far hk vs (o + 1) (w.setCell ⟨g, o, none⟩ v) ((Below.heap_setCell _ _ _ _ (show k ≠ (⟨g, o, none⟩ : Addr).block from hk)).trans h)
theorem setCells_size (g : Nat) : ∀ (vs : List Value) (o : Nat) (w : World), (w.setCells g o vs).heap.size = w.heap.size
  | [], _, _ => rfl
  | v :: vs, o, w => (setCells_size g vs (o + 1) (w.setCell ⟨g, o, none⟩ v)).trans (World.size_setCell _ _ _)
theorem there_blk {w : World} {g : Nat} {t : TypeId} {cs : Array Value} (h : w.heap[g]? = some (.cells cs t (0, 0))) (o n : Nat) (hn : o + n ≤ cs.size) : w.there g o n := fun j hj => by
  refine ⟨?_, blk_frozen h _⟩
  rw [blk_cell h (o + j)]
  rw [Array.getElem?_eq_getElem (by omega)]
  rfl
theorem range_blk {w : World} {g : Nat} {t : TypeId} {cs : Array Value} (h : w.heap[g]? = some (.cells cs t (0, 0))) (o n : Nat) (vs : List Value) (e : (cs.extract o (o + n)).toList = vs) : w.rangeAt g o vs := e ▸ World.rangeAt_of_block h o n
theorem all_one {cs : List Value} (h : cs.all (·.oneCell') = true) : cs.toArray.all (·.oneCell') = true := all_oneCell_toArray (List.all_eq_true.1 h)
theorem wpList_store_blk {P : Program} {ops : Array Oper} {rest : List Oper} {op : Oper} {a : Act} {w : World} {Q : Exit → Act → World → Prop} {g : Nat} {t : TypeId} {cs cs' : Array Value}
    (hb : w.heap[g]? = some (.cells cs t (0, 0))) (ty : TypeId) (x y : Operand) (o n : Nat) (vs : List Value) (hgd : op.guard = none) (ho : op.op = .store ty x y) (hx : a.eval x = .pointer (some ⟨g, o, none⟩)) (hy : a.eval y = .agg vs.toArray)
    (hl : vs.length = n) (hn : o + n ≤ cs.size) (hi : (P.info? ty).map (·.size) = some n) (h1 : vs.all (·.oneCell') = true) (e : setAll cs o vs = cs')
    (h : ∀ W', W'.heap[g]? = some (.cells cs' t (0, 0)) → (∀ n w0, n ≤ g → Below n w0 w → Below n w0 W') → (∀ k ob, k ≠ g → w.heap[k]? = ob → W'.heap[k]? = ob) → W'.heap.size = w.heap.size → wpList P ops Q rest (a.put op.dst undef) W') : wpList P ops Q (op :: rest) a w := by
  subst hl
  have hs : (w.setCells g o vs).heap.size = w.heap.size := setCells_size g vs o w
  exact wpList_store_mid hgd ty x y ho g o vs.toArray hx hy (there_blk hb o _ (by simpa using hn)) (by simpa using hi) (all_one h1) (h _ (setCells_blk hb o vs e) (fun n w0 hn hB => setCells_below hn vs o w hB) (fun k ob hk hb => setCells_far hk vs o w hb) hs)
theorem wpList_load_blk {P : Program} {ops : Array Oper} {rest : List Oper} {op : Oper} {a : Act} {w : World} {Q : Exit → Act → World → Prop} {g : Nat} {t : TypeId} {cs : Array Value}
    (hb : w.heap[g]? = some (.cells cs t (0, 0))) (ty : TypeId) (x : Operand) (o n : Nat) (vs : List Value) (d : TypeDesc) (hgd : op.guard = none) (ho : op.op = .load ty x) (hx : a.eval x = .pointer (some ⟨g, o, none⟩))
    (hl : vs.length = n) (e : (cs.extract o (o + n)).toList = vs) (hu : P.underlying ty = some d) (hd : d.isRow = true) (hi : (P.info? ty).map (·.size) = some n)
    (h : wpList P ops Q rest (a.put op.dst (.agg vs.toArray)) w) : wpList P ops Q (op :: rest) a w := by
  subst hl
  exact wpList_load_mid hgd ty x ho g o hx vs d (range_blk hb o _ vs e) hu hd hi h
set_option maxHeartbeats 16000000 in
theorem ref_cons (k : Int) (m : S25) (pc : Int) (w : World) :
    Calls Try.prog 62 #[.int .i64 k, .agg #[.string m.f0, .string m.f1, .string m.f2], .int .i64 pc] w fun e w' => e = .returned (.agg (List.toArray ((.int .i64 k) :: (.int .i64 pc) :: (.int .i64 0) :: (.string ⟨#[]⟩) :: (.string ⟨#[]⟩) :: (.string ⟨#[]⟩) :: (.int .i64 0) :: (.string ⟨#[]⟩) :: [.string ⟨#[]⟩, .string ⟨#[]⟩, .string ⟨#[]⟩, .string ⟨#[]⟩, .int .i64 0, .string ⟨#[]⟩, .int .i64 0, .string ⟨#[]⟩, .string ⟨#[]⟩, .string ⟨#[]⟩, .int .i64 0, .string ⟨#[]⟩, .string ⟨#[]⟩, .string ⟨#[]⟩, .string ⟨#[]⟩, .string ⟨#[]⟩, .int .i64 0, .string ⟨#[]⟩, .string m.f0, .string m.f1, .string m.f2, .int .i64 0, .string ⟨#[]⟩, .string ⟨#[]⟩, .string ⟨#[]⟩, .string ⟨#[]⟩, .string ⟨#[]⟩, .string ⟨#[]⟩, .string ⟨#[]⟩, .slice none 0 0]))) ∧ Below w.heap.size w w' := by
  have hb := World.alloc_heap_new (w.alloc (Obj.cells #[.string m.f0, .string m.f1, .string m.f2] 25)) (Obj.cells (List.toArray ((.int .i64 0) :: (.int .i64 0) :: (.int .i64 0) :: (.string ⟨#[]⟩) :: (.string ⟨#[]⟩) :: (.string ⟨#[]⟩) :: (.int .i64 0) :: (.string ⟨#[]⟩) :: [.string ⟨#[]⟩, .string ⟨#[]⟩, .string ⟨#[]⟩, .string ⟨#[]⟩, .int .i64 0, .string ⟨#[]⟩, .int .i64 0, .string ⟨#[]⟩, .string ⟨#[]⟩, .string ⟨#[]⟩, .int .i64 0, .string ⟨#[]⟩, .string ⟨#[]⟩, .string ⟨#[]⟩, .string ⟨#[]⟩, .string ⟨#[]⟩, .int .i64 0, .string ⟨#[]⟩, .string ⟨#[]⟩, .string ⟨#[]⟩, .string ⟨#[]⟩, .int .i64 0, .string ⟨#[]⟩, .string ⟨#[]⟩, .string ⟨#[]⟩, .string ⟨#[]⟩, .string ⟨#[]⟩, .string ⟨#[]⟩, .string ⟨#[]⟩, .slice none 0 0])) 60)
  rw [World.size_alloc] at hb
  have HN := Aside0.mk hb
  have HB := Aside0.mk (below_alloc (below_alloc (Below.refl w.heap.size w) (Obj.cells #[.string m.f0, .string m.f1, .string m.f2] 25)) (Obj.cells (List.toArray ((.int .i64 0) :: (.int .i64 0) :: (.int .i64 0) :: (.string ⟨#[]⟩) :: (.string ⟨#[]⟩) :: (.string ⟨#[]⟩) :: (.int .i64 0) :: (.string ⟨#[]⟩) :: [.string ⟨#[]⟩, .string ⟨#[]⟩, .string ⟨#[]⟩, .string ⟨#[]⟩, .int .i64 0, .string ⟨#[]⟩, .int .i64 0, .string ⟨#[]⟩, .string ⟨#[]⟩, .string ⟨#[]⟩, .int .i64 0, .string ⟨#[]⟩, .string ⟨#[]⟩, .string ⟨#[]⟩, .string ⟨#[]⟩, .string ⟨#[]⟩, .int .i64 0, .string ⟨#[]⟩, .string ⟨#[]⟩, .string ⟨#[]⟩, .string ⟨#[]⟩, .int .i64 0, .string ⟨#[]⟩, .string ⟨#[]⟩, .string ⟨#[]⟩, .string ⟨#[]⟩, .string ⟨#[]⟩, .string ⟨#[]⟩, .string ⟨#[]⟩, .slice none 0 0])) 60))
  have h0 := blk_alloc (World.alloc_heap_new w (Obj.cells #[.string m.f0, .string m.f1, .string m.f2] 25)) (Obj.cells (List.toArray ((.int .i64 0) :: (.int .i64 0) :: (.int .i64 0) :: (.string ⟨#[]⟩) :: (.string ⟨#[]⟩) :: (.string ⟨#[]⟩) :: (.int .i64 0) :: (.string ⟨#[]⟩) :: [.string ⟨#[]⟩, .string ⟨#[]⟩, .string ⟨#[]⟩, .string ⟨#[]⟩, .int .i64 0, .string ⟨#[]⟩, .int .i64 0, .string ⟨#[]⟩, .string ⟨#[]⟩, .string ⟨#[]⟩, .int .i64 0, .string ⟨#[]⟩, .string ⟨#[]⟩, .string ⟨#[]⟩, .string ⟨#[]⟩, .string ⟨#[]⟩, .int .i64 0, .string ⟨#[]⟩, .string ⟨#[]⟩, .string ⟨#[]⟩, .string ⟨#[]⟩, .int .i64 0, .string ⟨#[]⟩, .string ⟨#[]⟩, .string ⟨#[]⟩, .string ⟨#[]⟩, .string ⟨#[]⟩, .string ⟨#[]⟩, .string ⟨#[]⟩, .slice none 0 0])) 60)
  obtain ⟨e0, e1, e2⟩ := cells3 h0
  clear hb h0
  go_enter Try.func62, Try.ntmps62
  go_wp2_with (first
    | (refine wpList_store_blk (cs' := (List.toArray ((.int .i64 k) :: (.int .i64 pc) :: (.int .i64 0) :: (.string ⟨#[]⟩) :: (.string ⟨#[]⟩) :: (.string ⟨#[]⟩) :: (.int .i64 0) :: (.string ⟨#[]⟩) :: [.string ⟨#[]⟩, .string ⟨#[]⟩, .string ⟨#[]⟩, .string ⟨#[]⟩, .int .i64 0, .string ⟨#[]⟩, .int .i64 0, .string ⟨#[]⟩, .string ⟨#[]⟩, .string ⟨#[]⟩, .int .i64 0, .string ⟨#[]⟩, .string ⟨#[]⟩, .string ⟨#[]⟩, .string ⟨#[]⟩, .string ⟨#[]⟩, .int .i64 0, .string ⟨#[]⟩, .string m.f0, .string m.f1, .string m.f2, .int .i64 0, .string ⟨#[]⟩, .string ⟨#[]⟩, .string ⟨#[]⟩, .string ⟨#[]⟩, .string ⟨#[]⟩, .string ⟨#[]⟩, .string ⟨#[]⟩, .slice none 0 0]))) HN.out 60 _ _ 0 38 ((.int .i64 k) :: (.int .i64 pc) :: (.int .i64 0) :: (.string ⟨#[]⟩) :: (.string ⟨#[]⟩) :: (.string ⟨#[]⟩) :: (.int .i64 0) :: (.string ⟨#[]⟩) :: [.string ⟨#[]⟩, .string ⟨#[]⟩, .string ⟨#[]⟩, .string ⟨#[]⟩, .int .i64 0, .string ⟨#[]⟩, .int .i64 0, .string ⟨#[]⟩, .string ⟨#[]⟩, .string ⟨#[]⟩, .int .i64 0, .string ⟨#[]⟩, .string ⟨#[]⟩, .string ⟨#[]⟩, .string ⟨#[]⟩, .string ⟨#[]⟩, .int .i64 0, .string ⟨#[]⟩, .string m.f0, .string m.f1, .string m.f2, .int .i64 0, .string ⟨#[]⟩, .string ⟨#[]⟩, .string ⟨#[]⟩, .string ⟨#[]⟩, .string ⟨#[]⟩, .string ⟨#[]⟩, .string ⟨#[]⟩, .slice none 0 0]) rfl rfl rfl rfl rfl (show 38 ≤ 38 from Nat.le_refl 38) (by kernel_rfl) rfl (by kernel_rfl) ?_; intro W1 hb1 hB1 _ _; have HN2 := Aside0.mk hb1; have HB2 := Aside0.mk (hB1 _ _ (show w.heap.size ≤ w.heap.size + 1 by omega) HB.out); clear hb1 hB1 e0 e1 e2)
    | fail)
  exact bodyPost_ret (results_cell_row rfl _ _ (w.heap.size + 1) 60 (List.toArray ((.int .i64 k) :: (.int .i64 pc) :: (.int .i64 0) :: (.string ⟨#[]⟩) :: (.string ⟨#[]⟩) :: (.string ⟨#[]⟩) :: (.int .i64 0) :: (.string ⟨#[]⟩) :: [.string ⟨#[]⟩, .string ⟨#[]⟩, .string ⟨#[]⟩, .string ⟨#[]⟩, .int .i64 0, .string ⟨#[]⟩, .int .i64 0, .string ⟨#[]⟩, .string ⟨#[]⟩, .string ⟨#[]⟩, .int .i64 0, .string ⟨#[]⟩, .string ⟨#[]⟩, .string ⟨#[]⟩, .string ⟨#[]⟩, .string ⟨#[]⟩, .int .i64 0, .string ⟨#[]⟩, .string m.f0, .string m.f1, .string m.f2, .int .i64 0, .string ⟨#[]⟩, .string ⟨#[]⟩, .string ⟨#[]⟩, .string ⟨#[]⟩, .string ⟨#[]⟩, .string ⟨#[]⟩, .string ⟨#[]⟩, .slice none 0 0])) (0, 0) _ rfl HN2.out Try.underlying60 rfl (by kernel_rfl)) rfl ⟨rfl, HB2.out⟩
set_option maxHeartbeats 32000000 in
theorem ref_flows (m : S25) (pc : Int) (pt fr : S50) (cls : ByteArray) (w : World) :
    Calls Try.prog 39 #[.agg #[.string m.f0, .string m.f1, .string m.f2], .int .i64 pc, .agg #[.int .i64 pt.f0, .string pt.f1.f0, .string pt.f1.f1, .string pt.f1.f2, .int .i64 pt.f2, .string pt.f3.f0, .string pt.f3.f1, .string pt.f4.f0.f0, .string pt.f4.f0.f1, .string pt.f4.f0.f2, .int .i64 pt.f4.f1, .string pt.f4.f2], .agg #[.int .i64 fr.f0, .string fr.f1.f0, .string fr.f1.f1, .string fr.f1.f2, .int .i64 fr.f2, .string fr.f3.f0, .string fr.f3.f1, .string fr.f4.f0.f0, .string fr.f4.f0.f1, .string fr.f4.f0.f2, .int .i64 fr.f4.f1, .string fr.f4.f2], .string cls] w fun e w' => e = .returned (.agg (List.toArray ((.int .i64 2) :: (.int .i64 pc) :: (.int .i64 pt.f0) :: (.string pt.f1.f0) :: (.string pt.f1.f1) :: (.string pt.f1.f2) :: (.int .i64 pt.f2) :: (.string pt.f3.f0) :: [.string pt.f3.f1, .string pt.f4.f0.f0, .string pt.f4.f0.f1, .string pt.f4.f0.f2, .int .i64 pt.f4.f1, .string pt.f4.f2, .int .i64 fr.f0, .string fr.f1.f0, .string fr.f1.f1, .string fr.f1.f2, .int .i64 fr.f2, .string fr.f3.f0, .string fr.f3.f1, .string fr.f4.f0.f0, .string fr.f4.f0.f1, .string fr.f4.f0.f2, .int .i64 fr.f4.f1, .string fr.f4.f2, .string m.f0, .string m.f1, .string m.f2, .int .i64 0, .string ⟨#[]⟩, .string ⟨#[]⟩, .string ⟨#[]⟩, .string cls, .string ⟨#[]⟩, .string ⟨#[]⟩, .string ⟨#[]⟩, .slice none 0 0]))) ∧ Below w.heap.size w w' := by
  have h0 := blk_alloc (blk_alloc (blk_alloc (World.alloc_heap_new w (Obj.cells #[.string m.f0, .string m.f1, .string m.f2] 25)) (Obj.cells #[.int .i64 pt.f0, .string pt.f1.f0, .string pt.f1.f1, .string pt.f1.f2, .int .i64 pt.f2, .string pt.f3.f0, .string pt.f3.f1, .string pt.f4.f0.f0, .string pt.f4.f0.f1, .string pt.f4.f0.f2, .int .i64 pt.f4.f1, .string pt.f4.f2] 50)) (Obj.cells #[.int .i64 fr.f0, .string fr.f1.f0, .string fr.f1.f1, .string fr.f1.f2, .int .i64 fr.f2, .string fr.f3.f0, .string fr.f3.f1, .string fr.f4.f0.f0, .string fr.f4.f0.f1, .string fr.f4.f0.f2, .int .i64 fr.f4.f1, .string fr.f4.f2] 50)) (Obj.cells (List.toArray ((.int .i64 0) :: (.int .i64 0) :: (.int .i64 0) :: (.string ⟨#[]⟩) :: (.string ⟨#[]⟩) :: (.string ⟨#[]⟩) :: (.int .i64 0) :: (.string ⟨#[]⟩) :: [.string ⟨#[]⟩, .string ⟨#[]⟩, .string ⟨#[]⟩, .string ⟨#[]⟩, .int .i64 0, .string ⟨#[]⟩, .int .i64 0, .string ⟨#[]⟩, .string ⟨#[]⟩, .string ⟨#[]⟩, .int .i64 0, .string ⟨#[]⟩, .string ⟨#[]⟩, .string ⟨#[]⟩, .string ⟨#[]⟩, .string ⟨#[]⟩, .int .i64 0, .string ⟨#[]⟩, .string ⟨#[]⟩, .string ⟨#[]⟩, .string ⟨#[]⟩, .int .i64 0, .string ⟨#[]⟩, .string ⟨#[]⟩, .string ⟨#[]⟩, .string ⟨#[]⟩, .string ⟨#[]⟩, .string ⟨#[]⟩, .string ⟨#[]⟩, .slice none 0 0])) 60)
  have h1 := blk_alloc (blk_alloc (World.alloc_heap_new (w.alloc (Obj.cells #[.string m.f0, .string m.f1, .string m.f2] 25)) (Obj.cells #[.int .i64 pt.f0, .string pt.f1.f0, .string pt.f1.f1, .string pt.f1.f2, .int .i64 pt.f2, .string pt.f3.f0, .string pt.f3.f1, .string pt.f4.f0.f0, .string pt.f4.f0.f1, .string pt.f4.f0.f2, .int .i64 pt.f4.f1, .string pt.f4.f2] 50)) (Obj.cells #[.int .i64 fr.f0, .string fr.f1.f0, .string fr.f1.f1, .string fr.f1.f2, .int .i64 fr.f2, .string fr.f3.f0, .string fr.f3.f1, .string fr.f4.f0.f0, .string fr.f4.f0.f1, .string fr.f4.f0.f2, .int .i64 fr.f4.f1, .string fr.f4.f2] 50)) (Obj.cells (List.toArray ((.int .i64 0) :: (.int .i64 0) :: (.int .i64 0) :: (.string ⟨#[]⟩) :: (.string ⟨#[]⟩) :: (.string ⟨#[]⟩) :: (.int .i64 0) :: (.string ⟨#[]⟩) :: [.string ⟨#[]⟩, .string ⟨#[]⟩, .string ⟨#[]⟩, .string ⟨#[]⟩, .int .i64 0, .string ⟨#[]⟩, .int .i64 0, .string ⟨#[]⟩, .string ⟨#[]⟩, .string ⟨#[]⟩, .int .i64 0, .string ⟨#[]⟩, .string ⟨#[]⟩, .string ⟨#[]⟩, .string ⟨#[]⟩, .string ⟨#[]⟩, .int .i64 0, .string ⟨#[]⟩, .string ⟨#[]⟩, .string ⟨#[]⟩, .string ⟨#[]⟩, .int .i64 0, .string ⟨#[]⟩, .string ⟨#[]⟩, .string ⟨#[]⟩, .string ⟨#[]⟩, .string ⟨#[]⟩, .string ⟨#[]⟩, .string ⟨#[]⟩, .slice none 0 0])) 60)
  have h2 := blk_alloc (World.alloc_heap_new ((w.alloc (Obj.cells #[.string m.f0, .string m.f1, .string m.f2] 25)).alloc (Obj.cells #[.int .i64 pt.f0, .string pt.f1.f0, .string pt.f1.f1, .string pt.f1.f2, .int .i64 pt.f2, .string pt.f3.f0, .string pt.f3.f1, .string pt.f4.f0.f0, .string pt.f4.f0.f1, .string pt.f4.f0.f2, .int .i64 pt.f4.f1, .string pt.f4.f2] 50)) (Obj.cells #[.int .i64 fr.f0, .string fr.f1.f0, .string fr.f1.f1, .string fr.f1.f2, .int .i64 fr.f2, .string fr.f3.f0, .string fr.f3.f1, .string fr.f4.f0.f0, .string fr.f4.f0.f1, .string fr.f4.f0.f2, .int .i64 fr.f4.f1, .string fr.f4.f2] 50)) (Obj.cells (List.toArray ((.int .i64 0) :: (.int .i64 0) :: (.int .i64 0) :: (.string ⟨#[]⟩) :: (.string ⟨#[]⟩) :: (.string ⟨#[]⟩) :: (.int .i64 0) :: (.string ⟨#[]⟩) :: [.string ⟨#[]⟩, .string ⟨#[]⟩, .string ⟨#[]⟩, .string ⟨#[]⟩, .int .i64 0, .string ⟨#[]⟩, .int .i64 0, .string ⟨#[]⟩, .string ⟨#[]⟩, .string ⟨#[]⟩, .int .i64 0, .string ⟨#[]⟩, .string ⟨#[]⟩, .string ⟨#[]⟩, .string ⟨#[]⟩, .string ⟨#[]⟩, .int .i64 0, .string ⟨#[]⟩, .string ⟨#[]⟩, .string ⟨#[]⟩, .string ⟨#[]⟩, .int .i64 0, .string ⟨#[]⟩, .string ⟨#[]⟩, .string ⟨#[]⟩, .string ⟨#[]⟩, .string ⟨#[]⟩, .string ⟨#[]⟩, .string ⟨#[]⟩, .slice none 0 0])) 60)
  have h3 := World.alloc_heap_new (((w.alloc (Obj.cells #[.string m.f0, .string m.f1, .string m.f2] 25)).alloc (Obj.cells #[.int .i64 pt.f0, .string pt.f1.f0, .string pt.f1.f1, .string pt.f1.f2, .int .i64 pt.f2, .string pt.f3.f0, .string pt.f3.f1, .string pt.f4.f0.f0, .string pt.f4.f0.f1, .string pt.f4.f0.f2, .int .i64 pt.f4.f1, .string pt.f4.f2] 50)).alloc (Obj.cells #[.int .i64 fr.f0, .string fr.f1.f0, .string fr.f1.f1, .string fr.f1.f2, .int .i64 fr.f2, .string fr.f3.f0, .string fr.f3.f1, .string fr.f4.f0.f0, .string fr.f4.f0.f1, .string fr.f4.f0.f2, .int .i64 fr.f4.f1, .string fr.f4.f2] 50)) (Obj.cells (List.toArray ((.int .i64 0) :: (.int .i64 0) :: (.int .i64 0) :: (.string ⟨#[]⟩) :: (.string ⟨#[]⟩) :: (.string ⟨#[]⟩) :: (.int .i64 0) :: (.string ⟨#[]⟩) :: [.string ⟨#[]⟩, .string ⟨#[]⟩, .string ⟨#[]⟩, .string ⟨#[]⟩, .int .i64 0, .string ⟨#[]⟩, .int .i64 0, .string ⟨#[]⟩, .string ⟨#[]⟩, .string ⟨#[]⟩, .int .i64 0, .string ⟨#[]⟩, .string ⟨#[]⟩, .string ⟨#[]⟩, .string ⟨#[]⟩, .string ⟨#[]⟩, .int .i64 0, .string ⟨#[]⟩, .string ⟨#[]⟩, .string ⟨#[]⟩, .string ⟨#[]⟩, .int .i64 0, .string ⟨#[]⟩, .string ⟨#[]⟩, .string ⟨#[]⟩, .string ⟨#[]⟩, .string ⟨#[]⟩, .string ⟨#[]⟩, .string ⟨#[]⟩, .slice none 0 0])) 60)
  rw [World.size_alloc] at h1
  rw [World.size_alloc, World.size_alloc] at h2
  rw [World.size_alloc, World.size_alloc, World.size_alloc] at h3
  obtain ⟨e0, e1, e2⟩ := cells3 h0
  have HT0 := Aside0.mk h1
  have HU0 := Aside0.mk h2
  have HV0 := Aside0.mk h3
  have HB0 := Aside0.mk (below_alloc (below_alloc (below_alloc (below_alloc (Below.refl w.heap.size w) (Obj.cells #[.string m.f0, .string m.f1, .string m.f2] 25)) (Obj.cells #[.int .i64 pt.f0, .string pt.f1.f0, .string pt.f1.f1, .string pt.f1.f2, .int .i64 pt.f2, .string pt.f3.f0, .string pt.f3.f1, .string pt.f4.f0.f0, .string pt.f4.f0.f1, .string pt.f4.f0.f2, .int .i64 pt.f4.f1, .string pt.f4.f2] 50)) (Obj.cells #[.int .i64 fr.f0, .string fr.f1.f0, .string fr.f1.f1, .string fr.f1.f2, .int .i64 fr.f2, .string fr.f3.f0, .string fr.f3.f1, .string fr.f4.f0.f0, .string fr.f4.f0.f1, .string fr.f4.f0.f2, .int .i64 fr.f4.f1, .string fr.f4.f2] 50)) (Obj.cells (List.toArray ((.int .i64 0) :: (.int .i64 0) :: (.int .i64 0) :: (.string ⟨#[]⟩) :: (.string ⟨#[]⟩) :: (.string ⟨#[]⟩) :: (.int .i64 0) :: (.string ⟨#[]⟩) :: [.string ⟨#[]⟩, .string ⟨#[]⟩, .string ⟨#[]⟩, .string ⟨#[]⟩, .int .i64 0, .string ⟨#[]⟩, .int .i64 0, .string ⟨#[]⟩, .string ⟨#[]⟩, .string ⟨#[]⟩, .int .i64 0, .string ⟨#[]⟩, .string ⟨#[]⟩, .string ⟨#[]⟩, .string ⟨#[]⟩, .string ⟨#[]⟩, .int .i64 0, .string ⟨#[]⟩, .string ⟨#[]⟩, .string ⟨#[]⟩, .string ⟨#[]⟩, .int .i64 0, .string ⟨#[]⟩, .string ⟨#[]⟩, .string ⟨#[]⟩, .string ⟨#[]⟩, .string ⟨#[]⟩, .string ⟨#[]⟩, .string ⟨#[]⟩, .slice none 0 0])) 60))
  have HS0 : Aside0 (((((w.alloc (Obj.cells #[.string m.f0, .string m.f1, .string m.f2] 25)).alloc (Obj.cells #[.int .i64 pt.f0, .string pt.f1.f0, .string pt.f1.f1, .string pt.f1.f2, .int .i64 pt.f2, .string pt.f3.f0, .string pt.f3.f1, .string pt.f4.f0.f0, .string pt.f4.f0.f1, .string pt.f4.f0.f2, .int .i64 pt.f4.f1, .string pt.f4.f2] 50)).alloc (Obj.cells #[.int .i64 fr.f0, .string fr.f1.f0, .string fr.f1.f1, .string fr.f1.f2, .int .i64 fr.f2, .string fr.f3.f0, .string fr.f3.f1, .string fr.f4.f0.f0, .string fr.f4.f0.f1, .string fr.f4.f0.f2, .int .i64 fr.f4.f1, .string fr.f4.f2] 50)).alloc (Obj.cells (List.toArray ((.int .i64 0) :: (.int .i64 0) :: (.int .i64 0) :: (.string ⟨#[]⟩) :: (.string ⟨#[]⟩) :: (.string ⟨#[]⟩) :: (.int .i64 0) :: (.string ⟨#[]⟩) :: [.string ⟨#[]⟩, .string ⟨#[]⟩, .string ⟨#[]⟩, .string ⟨#[]⟩, .int .i64 0, .string ⟨#[]⟩, .int .i64 0, .string ⟨#[]⟩, .string ⟨#[]⟩, .string ⟨#[]⟩, .int .i64 0, .string ⟨#[]⟩, .string ⟨#[]⟩, .string ⟨#[]⟩, .string ⟨#[]⟩, .string ⟨#[]⟩, .int .i64 0, .string ⟨#[]⟩, .string ⟨#[]⟩, .string ⟨#[]⟩, .string ⟨#[]⟩, .int .i64 0, .string ⟨#[]⟩, .string ⟨#[]⟩, .string ⟨#[]⟩, .string ⟨#[]⟩, .string ⟨#[]⟩, .string ⟨#[]⟩, .string ⟨#[]⟩, .slice none 0 0])) 60)).heap.size = w.heap.size + 4) := ⟨by rw [World.size_alloc, World.size_alloc, World.size_alloc, World.size_alloc]⟩
  clear h0 h1 h2 h3
  go_enter Try.func39, Try.ntmps39
  go_wp2_with (first
    | (go_at_call 62; refine (ref_cons 2 m pc _).mono ?_; rintro e w1 ⟨rfl, hb⟩; have HQ1 := Aside0.mk (World.alloc_heap_new w1 (Obj.cells (List.toArray ((.int .i64 0) :: (.int .i64 0) :: (.int .i64 0) :: (.string ⟨#[]⟩) :: (.string ⟨#[]⟩) :: (.string ⟨#[]⟩) :: (.int .i64 0) :: (.string ⟨#[]⟩) :: [.string ⟨#[]⟩, .string ⟨#[]⟩, .string ⟨#[]⟩, .string ⟨#[]⟩, .int .i64 0, .string ⟨#[]⟩, .int .i64 0, .string ⟨#[]⟩, .string ⟨#[]⟩, .string ⟨#[]⟩, .int .i64 0, .string ⟨#[]⟩, .string ⟨#[]⟩, .string ⟨#[]⟩, .string ⟨#[]⟩, .string ⟨#[]⟩, .int .i64 0, .string ⟨#[]⟩, .string ⟨#[]⟩, .string ⟨#[]⟩, .string ⟨#[]⟩, .int .i64 0, .string ⟨#[]⟩, .string ⟨#[]⟩, .string ⟨#[]⟩, .string ⟨#[]⟩, .string ⟨#[]⟩, .string ⟨#[]⟩, .string ⟨#[]⟩, .slice none 0 0])) 60)); have HT1 := Aside0.mk (blk_alloc (blk_below HT0.out hb) (Obj.cells (List.toArray ((.int .i64 0) :: (.int .i64 0) :: (.int .i64 0) :: (.string ⟨#[]⟩) :: (.string ⟨#[]⟩) :: (.string ⟨#[]⟩) :: (.int .i64 0) :: (.string ⟨#[]⟩) :: [.string ⟨#[]⟩, .string ⟨#[]⟩, .string ⟨#[]⟩, .string ⟨#[]⟩, .int .i64 0, .string ⟨#[]⟩, .int .i64 0, .string ⟨#[]⟩, .string ⟨#[]⟩, .string ⟨#[]⟩, .int .i64 0, .string ⟨#[]⟩, .string ⟨#[]⟩, .string ⟨#[]⟩, .string ⟨#[]⟩, .string ⟨#[]⟩, .int .i64 0, .string ⟨#[]⟩, .string ⟨#[]⟩, .string ⟨#[]⟩, .string ⟨#[]⟩, .int .i64 0, .string ⟨#[]⟩, .string ⟨#[]⟩, .string ⟨#[]⟩, .string ⟨#[]⟩, .string ⟨#[]⟩, .string ⟨#[]⟩, .string ⟨#[]⟩, .slice none 0 0])) 60)); have HU1 := Aside0.mk (blk_alloc (blk_below HU0.out hb) (Obj.cells (List.toArray ((.int .i64 0) :: (.int .i64 0) :: (.int .i64 0) :: (.string ⟨#[]⟩) :: (.string ⟨#[]⟩) :: (.string ⟨#[]⟩) :: (.int .i64 0) :: (.string ⟨#[]⟩) :: [.string ⟨#[]⟩, .string ⟨#[]⟩, .string ⟨#[]⟩, .string ⟨#[]⟩, .int .i64 0, .string ⟨#[]⟩, .int .i64 0, .string ⟨#[]⟩, .string ⟨#[]⟩, .string ⟨#[]⟩, .int .i64 0, .string ⟨#[]⟩, .string ⟨#[]⟩, .string ⟨#[]⟩, .string ⟨#[]⟩, .string ⟨#[]⟩, .int .i64 0, .string ⟨#[]⟩, .string ⟨#[]⟩, .string ⟨#[]⟩, .string ⟨#[]⟩, .int .i64 0, .string ⟨#[]⟩, .string ⟨#[]⟩, .string ⟨#[]⟩, .string ⟨#[]⟩, .string ⟨#[]⟩, .string ⟨#[]⟩, .string ⟨#[]⟩, .slice none 0 0])) 60)); have HV1 := Aside0.mk (blk_alloc (blk_below HV0.out hb) (Obj.cells (List.toArray ((.int .i64 0) :: (.int .i64 0) :: (.int .i64 0) :: (.string ⟨#[]⟩) :: (.string ⟨#[]⟩) :: (.string ⟨#[]⟩) :: (.int .i64 0) :: (.string ⟨#[]⟩) :: [.string ⟨#[]⟩, .string ⟨#[]⟩, .string ⟨#[]⟩, .string ⟨#[]⟩, .int .i64 0, .string ⟨#[]⟩, .int .i64 0, .string ⟨#[]⟩, .string ⟨#[]⟩, .string ⟨#[]⟩, .int .i64 0, .string ⟨#[]⟩, .string ⟨#[]⟩, .string ⟨#[]⟩, .string ⟨#[]⟩, .string ⟨#[]⟩, .int .i64 0, .string ⟨#[]⟩, .string ⟨#[]⟩, .string ⟨#[]⟩, .string ⟨#[]⟩, .int .i64 0, .string ⟨#[]⟩, .string ⟨#[]⟩, .string ⟨#[]⟩, .string ⟨#[]⟩, .string ⟨#[]⟩, .string ⟨#[]⟩, .string ⟨#[]⟩, .slice none 0 0])) 60)); have HB1 := Aside0.mk (below_alloc (below_step HB0.out hb) (Obj.cells (List.toArray ((.int .i64 0) :: (.int .i64 0) :: (.int .i64 0) :: (.string ⟨#[]⟩) :: (.string ⟨#[]⟩) :: (.string ⟨#[]⟩) :: (.int .i64 0) :: (.string ⟨#[]⟩) :: [.string ⟨#[]⟩, .string ⟨#[]⟩, .string ⟨#[]⟩, .string ⟨#[]⟩, .int .i64 0, .string ⟨#[]⟩, .int .i64 0, .string ⟨#[]⟩, .string ⟨#[]⟩, .string ⟨#[]⟩, .int .i64 0, .string ⟨#[]⟩, .string ⟨#[]⟩, .string ⟨#[]⟩, .string ⟨#[]⟩, .string ⟨#[]⟩, .int .i64 0, .string ⟨#[]⟩, .string ⟨#[]⟩, .string ⟨#[]⟩, .string ⟨#[]⟩, .int .i64 0, .string ⟨#[]⟩, .string ⟨#[]⟩, .string ⟨#[]⟩, .string ⟨#[]⟩, .string ⟨#[]⟩, .string ⟨#[]⟩, .string ⟨#[]⟩, .slice none 0 0])) 60)); have HS1 := Aside0.mk (show w.heap.size + 4 ≤ w1.heap.size from by rw [← HS0.out]; exact hb.size); clear hb e0 e1 e2)
    | (refine wpList_store_blk (cs' := (List.toArray ((.int .i64 2) :: (.int .i64 pc) :: (.int .i64 0) :: (.string ⟨#[]⟩) :: (.string ⟨#[]⟩) :: (.string ⟨#[]⟩) :: (.int .i64 0) :: (.string ⟨#[]⟩) :: [.string ⟨#[]⟩, .string ⟨#[]⟩, .string ⟨#[]⟩, .string ⟨#[]⟩, .int .i64 0, .string ⟨#[]⟩, .int .i64 0, .string ⟨#[]⟩, .string ⟨#[]⟩, .string ⟨#[]⟩, .int .i64 0, .string ⟨#[]⟩, .string ⟨#[]⟩, .string ⟨#[]⟩, .string ⟨#[]⟩, .string ⟨#[]⟩, .int .i64 0, .string ⟨#[]⟩, .string m.f0, .string m.f1, .string m.f2, .int .i64 0, .string ⟨#[]⟩, .string ⟨#[]⟩, .string ⟨#[]⟩, .string ⟨#[]⟩, .string ⟨#[]⟩, .string ⟨#[]⟩, .string ⟨#[]⟩, .slice none 0 0]))) HQ1.out 60 _ _ 0 38 ((.int .i64 2) :: (.int .i64 pc) :: (.int .i64 0) :: (.string ⟨#[]⟩) :: (.string ⟨#[]⟩) :: (.string ⟨#[]⟩) :: (.int .i64 0) :: (.string ⟨#[]⟩) :: [.string ⟨#[]⟩, .string ⟨#[]⟩, .string ⟨#[]⟩, .string ⟨#[]⟩, .int .i64 0, .string ⟨#[]⟩, .int .i64 0, .string ⟨#[]⟩, .string ⟨#[]⟩, .string ⟨#[]⟩, .int .i64 0, .string ⟨#[]⟩, .string ⟨#[]⟩, .string ⟨#[]⟩, .string ⟨#[]⟩, .string ⟨#[]⟩, .int .i64 0, .string ⟨#[]⟩, .string m.f0, .string m.f1, .string m.f2, .int .i64 0, .string ⟨#[]⟩, .string ⟨#[]⟩, .string ⟨#[]⟩, .string ⟨#[]⟩, .string ⟨#[]⟩, .string ⟨#[]⟩, .string ⟨#[]⟩, .slice none 0 0]) rfl rfl rfl rfl rfl (show 38 ≤ 38 from Nat.le_refl 38) (by kernel_rfl) rfl (by kernel_rfl) ?_; intro W2 hq hB hF _; have HQ2 := Aside0.mk hq; have HT2 := Aside0.mk (hF _ _ (by have := HS1.out; omega) HT1.out); have HU2 := Aside0.mk (hF _ _ (by have := HS1.out; omega) HU1.out); have HV2 := Aside0.mk (hF _ _ (by have := HS1.out; omega) HV1.out); have HB2 := Aside0.mk (hB _ _ (by have := HS1.out; omega) HB1.out); clear hq hB hF)
    | (refine wpList_load_blk HT2.out 50 _ 0 12 [.int .i64 pt.f0, .string pt.f1.f0, .string pt.f1.f1, .string pt.f1.f2, .int .i64 pt.f2, .string pt.f3.f0, .string pt.f3.f1, .string pt.f4.f0.f0, .string pt.f4.f0.f1, .string pt.f4.f0.f2, .int .i64 pt.f4.f1, .string pt.f4.f2] _ rfl rfl rfl rfl (by kernel_rfl) Try.underlying50 rfl (by kernel_rfl) ?_)
    | (refine wpList_store_blk (cs' := (List.toArray ((.int .i64 2) :: (.int .i64 pc) :: (.int .i64 pt.f0) :: (.string pt.f1.f0) :: (.string pt.f1.f1) :: (.string pt.f1.f2) :: (.int .i64 pt.f2) :: (.string pt.f3.f0) :: [.string pt.f3.f1, .string pt.f4.f0.f0, .string pt.f4.f0.f1, .string pt.f4.f0.f2, .int .i64 pt.f4.f1, .string pt.f4.f2, .int .i64 0, .string ⟨#[]⟩, .string ⟨#[]⟩, .string ⟨#[]⟩, .int .i64 0, .string ⟨#[]⟩, .string ⟨#[]⟩, .string ⟨#[]⟩, .string ⟨#[]⟩, .string ⟨#[]⟩, .int .i64 0, .string ⟨#[]⟩, .string m.f0, .string m.f1, .string m.f2, .int .i64 0, .string ⟨#[]⟩, .string ⟨#[]⟩, .string ⟨#[]⟩, .string ⟨#[]⟩, .string ⟨#[]⟩, .string ⟨#[]⟩, .string ⟨#[]⟩, .slice none 0 0]))) HQ2.out 50 _ _ 2 12 [.int .i64 pt.f0, .string pt.f1.f0, .string pt.f1.f1, .string pt.f1.f2, .int .i64 pt.f2, .string pt.f3.f0, .string pt.f3.f1, .string pt.f4.f0.f0, .string pt.f4.f0.f1, .string pt.f4.f0.f2, .int .i64 pt.f4.f1, .string pt.f4.f2] rfl rfl rfl rfl rfl (show 14 ≤ 38 from Nat.le_add_right 14 24) (by kernel_rfl) rfl (by kernel_rfl) ?_; intro W3 hq hB hF _; have HQ3 := Aside0.mk hq; have HU3 := Aside0.mk (hF _ _ (by have := HS1.out; omega) HU2.out); have HV3 := Aside0.mk (hF _ _ (by have := HS1.out; omega) HV2.out); have HB3 := Aside0.mk (hB _ _ (by have := HS1.out; omega) HB2.out); clear hq hB hF)
    | (refine wpList_load_blk HU3.out 50 _ 0 12 [.int .i64 fr.f0, .string fr.f1.f0, .string fr.f1.f1, .string fr.f1.f2, .int .i64 fr.f2, .string fr.f3.f0, .string fr.f3.f1, .string fr.f4.f0.f0, .string fr.f4.f0.f1, .string fr.f4.f0.f2, .int .i64 fr.f4.f1, .string fr.f4.f2] _ rfl rfl rfl rfl (by kernel_rfl) Try.underlying50 rfl (by kernel_rfl) ?_)
    | (refine wpList_store_blk (cs' := (List.toArray ((.int .i64 2) :: (.int .i64 pc) :: (.int .i64 pt.f0) :: (.string pt.f1.f0) :: (.string pt.f1.f1) :: (.string pt.f1.f2) :: (.int .i64 pt.f2) :: (.string pt.f3.f0) :: [.string pt.f3.f1, .string pt.f4.f0.f0, .string pt.f4.f0.f1, .string pt.f4.f0.f2, .int .i64 pt.f4.f1, .string pt.f4.f2, .int .i64 fr.f0, .string fr.f1.f0, .string fr.f1.f1, .string fr.f1.f2, .int .i64 fr.f2, .string fr.f3.f0, .string fr.f3.f1, .string fr.f4.f0.f0, .string fr.f4.f0.f1, .string fr.f4.f0.f2, .int .i64 fr.f4.f1, .string fr.f4.f2, .string m.f0, .string m.f1, .string m.f2, .int .i64 0, .string ⟨#[]⟩, .string ⟨#[]⟩, .string ⟨#[]⟩, .string ⟨#[]⟩, .string ⟨#[]⟩, .string ⟨#[]⟩, .string ⟨#[]⟩, .slice none 0 0]))) HQ3.out 50 _ _ 14 12 [.int .i64 fr.f0, .string fr.f1.f0, .string fr.f1.f1, .string fr.f1.f2, .int .i64 fr.f2, .string fr.f3.f0, .string fr.f3.f1, .string fr.f4.f0.f0, .string fr.f4.f0.f1, .string fr.f4.f0.f2, .int .i64 fr.f4.f1, .string fr.f4.f2] rfl rfl rfl rfl rfl (show 26 ≤ 38 from Nat.le_add_right 26 12) (by kernel_rfl) rfl (by kernel_rfl) ?_; intro W4 hq hB hF _; have HQ4 := Aside0.mk hq; have HV4 := Aside0.mk (hF _ _ (by have := HS1.out; omega) HV3.out); have HB4 := Aside0.mk (hB _ _ (by have := HS1.out; omega) HB3.out); have c33 : W4.cell? ⟨w1.heap.size, 33, none⟩ = some (.string ⟨#[]⟩) := blk_cell hq 33; have f33 := blk_frozen hq; clear hq hB hF)
    | (refine wpList_load_blk (blk_put (cs' := (List.toArray ((.int .i64 2) :: (.int .i64 pc) :: (.int .i64 pt.f0) :: (.string pt.f1.f0) :: (.string pt.f1.f1) :: (.string pt.f1.f2) :: (.int .i64 pt.f2) :: (.string pt.f3.f0) :: [.string pt.f3.f1, .string pt.f4.f0.f0, .string pt.f4.f0.f1, .string pt.f4.f0.f2, .int .i64 pt.f4.f1, .string pt.f4.f2, .int .i64 fr.f0, .string fr.f1.f0, .string fr.f1.f1, .string fr.f1.f2, .int .i64 fr.f2, .string fr.f3.f0, .string fr.f3.f1, .string fr.f4.f0.f0, .string fr.f4.f0.f1, .string fr.f4.f0.f2, .int .i64 fr.f4.f1, .string fr.f4.f2, .string m.f0, .string m.f1, .string m.f2, .int .i64 0, .string ⟨#[]⟩, .string ⟨#[]⟩, .string ⟨#[]⟩, .string cls, .string ⟨#[]⟩, .string ⟨#[]⟩, .string ⟨#[]⟩, .slice none 0 0]))) HQ4.out 33 (.string cls) (by kernel_rfl)) 60 _ 0 38 ((.int .i64 2) :: (.int .i64 pc) :: (.int .i64 pt.f0) :: (.string pt.f1.f0) :: (.string pt.f1.f1) :: (.string pt.f1.f2) :: (.int .i64 pt.f2) :: (.string pt.f3.f0) :: [.string pt.f3.f1, .string pt.f4.f0.f0, .string pt.f4.f0.f1, .string pt.f4.f0.f2, .int .i64 pt.f4.f1, .string pt.f4.f2, .int .i64 fr.f0, .string fr.f1.f0, .string fr.f1.f1, .string fr.f1.f2, .int .i64 fr.f2, .string fr.f3.f0, .string fr.f3.f1, .string fr.f4.f0.f0, .string fr.f4.f0.f1, .string fr.f4.f0.f2, .int .i64 fr.f4.f1, .string fr.f4.f2, .string m.f0, .string m.f1, .string m.f2, .int .i64 0, .string ⟨#[]⟩, .string ⟨#[]⟩, .string ⟨#[]⟩, .string cls, .string ⟨#[]⟩, .string ⟨#[]⟩, .string ⟨#[]⟩, .slice none 0 0]) _ rfl rfl rfl rfl (by kernel_rfl) Try.underlying60 rfl (by kernel_rfl) ?_; have HV5 := Aside0.mk ((Below.heap_setCell W4 ⟨w1.heap.size, 33, none⟩ (.string cls) (w.heap.size + 1 + 1 + 1) (by have := HS1.out; show w.heap.size + 1 + 1 + 1 ≠ w1.heap.size; omega)).trans HV4.out); have HB5 := Aside0.mk (HB4.out.setCell (p := ⟨w1.heap.size, 33, none⟩) (show w.heap.size ≤ w1.heap.size by have := HS1.out; omega) (.string cls)))
    | (refine wpList_store_blk (cs' := (List.toArray ((.int .i64 2) :: (.int .i64 pc) :: (.int .i64 pt.f0) :: (.string pt.f1.f0) :: (.string pt.f1.f1) :: (.string pt.f1.f2) :: (.int .i64 pt.f2) :: (.string pt.f3.f0) :: [.string pt.f3.f1, .string pt.f4.f0.f0, .string pt.f4.f0.f1, .string pt.f4.f0.f2, .int .i64 pt.f4.f1, .string pt.f4.f2, .int .i64 fr.f0, .string fr.f1.f0, .string fr.f1.f1, .string fr.f1.f2, .int .i64 fr.f2, .string fr.f3.f0, .string fr.f3.f1, .string fr.f4.f0.f0, .string fr.f4.f0.f1, .string fr.f4.f0.f2, .int .i64 fr.f4.f1, .string fr.f4.f2, .string m.f0, .string m.f1, .string m.f2, .int .i64 0, .string ⟨#[]⟩, .string ⟨#[]⟩, .string ⟨#[]⟩, .string cls, .string ⟨#[]⟩, .string ⟨#[]⟩, .string ⟨#[]⟩, .slice none 0 0]))) HV5.out 60 _ _ 0 38 ((.int .i64 2) :: (.int .i64 pc) :: (.int .i64 pt.f0) :: (.string pt.f1.f0) :: (.string pt.f1.f1) :: (.string pt.f1.f2) :: (.int .i64 pt.f2) :: (.string pt.f3.f0) :: [.string pt.f3.f1, .string pt.f4.f0.f0, .string pt.f4.f0.f1, .string pt.f4.f0.f2, .int .i64 pt.f4.f1, .string pt.f4.f2, .int .i64 fr.f0, .string fr.f1.f0, .string fr.f1.f1, .string fr.f1.f2, .int .i64 fr.f2, .string fr.f3.f0, .string fr.f3.f1, .string fr.f4.f0.f0, .string fr.f4.f0.f1, .string fr.f4.f0.f2, .int .i64 fr.f4.f1, .string fr.f4.f2, .string m.f0, .string m.f1, .string m.f2, .int .i64 0, .string ⟨#[]⟩, .string ⟨#[]⟩, .string ⟨#[]⟩, .string cls, .string ⟨#[]⟩, .string ⟨#[]⟩, .string ⟨#[]⟩, .slice none 0 0]) rfl rfl rfl rfl rfl (show 38 ≤ 38 from Nat.le_refl 38) (by kernel_rfl) rfl (by kernel_rfl) ?_; intro W6 hq hB hF _; have HR6 := Aside0.mk hq; have HB6 := Aside0.mk (hB _ _ (by omega) HB5.out); clear hq hB hF)
    | fail)
  exact bodyPost_ret (results_cell_row rfl _ _ (w.heap.size + 1 + 1 + 1) 60 (List.toArray ((.int .i64 2) :: (.int .i64 pc) :: (.int .i64 pt.f0) :: (.string pt.f1.f0) :: (.string pt.f1.f1) :: (.string pt.f1.f2) :: (.int .i64 pt.f2) :: (.string pt.f3.f0) :: [.string pt.f3.f1, .string pt.f4.f0.f0, .string pt.f4.f0.f1, .string pt.f4.f0.f2, .int .i64 pt.f4.f1, .string pt.f4.f2, .int .i64 fr.f0, .string fr.f1.f0, .string fr.f1.f1, .string fr.f1.f2, .int .i64 fr.f2, .string fr.f3.f0, .string fr.f3.f1, .string fr.f4.f0.f0, .string fr.f4.f0.f1, .string fr.f4.f0.f2, .int .i64 fr.f4.f1, .string fr.f4.f2, .string m.f0, .string m.f1, .string m.f2, .int .i64 0, .string ⟨#[]⟩, .string ⟨#[]⟩, .string ⟨#[]⟩, .string cls, .string ⟨#[]⟩, .string ⟨#[]⟩, .string ⟨#[]⟩, .slice none 0 0])) (0, 0) _ rfl HR6.out Try.underlying60 rfl (by kernel_rfl)) rfl ⟨rfl, HB6.out⟩
end Go.Proofs.Ytfplcohjnlbfjaa.Hand
end

section
namespace Go.Proofs.Ytfplcohjnlbfjaa.Hand
open Go.RowKit Go.Proofs.YtfplcohjnlbfjaaW.PrintWords Go.Proofs.YtfplcohjnlbfjaaW.PrintLast Go.Proofs.YtfplcohjnlbfjaaW.PrintMore
set_option linter.unusedVariables false
set_option linter.unusedSimpArgs false
set_option maxRecDepth 20000
def passFrom (fst : Nat) (c : S60) (t : S25) (n : Nat) : List S60 := ((List.range n).filter (fun i => decide (fst ≤ i))).map (passL c t)
theorem passFrom_len (fst : Nat) (c : S60) (t : S25) (n : Nat) : (passFrom fst c t n).length ≤ n := by
  unfold passFrom
  rw [List.length_map]
  exact Nat.le_trans (List.length_filter_le _ _) (Nat.le_of_eq List.length_range)
theorem passFrom_ge {fst : Nat} {c : S60} {t : S25} {n : Nat} (h : fst ≤ n) : passFrom fst c t (n + 1) = passFrom fst c t n ++ [passL c t n] := by
  unfold passFrom
  rw [List.range_succ, List.filter_append, List.map_append, List.filter_cons_of_pos (by simpa using h)]
  rfl
theorem passFrom_lt {fst : Nat} {c : S60} {t : S25} {n : Nat} (h : ¬ fst ≤ n) : passFrom fst c t (n + 1) = passFrom fst c t n := by
  unfold passFrom
  rw [List.range_succ, List.filter_append, List.map_append, List.filter_cons_of_neg (by simpa using h)]
  simp
def passRet (c : S60) (t : S25) : S60 := ⟨2, c.f1, c.f2, (⟨2, t, 0, z44, z46⟩ : S50), ⟨c.f4.f0, 0, ⟨#[]⟩⟩, z44, ⟨#[]⟩, z25, []⟩
def passList (fst : Nat) (c : S60) (t : S25) : List S60 := if c.f2.f0 = 0 then passFrom fst c t c.f8.length else passFrom fst c t c.f8.length ++ [passRet c t]
theorem passList_none {fst : Nat} {c : S60} {t : S25} (h : c.f2.f0 = 0) : passList fst c t = passFrom fst c t c.f8.length := if_pos h
theorem passList_some {fst : Nat} {c : S60} {t : S25} (h : ¬ c.f2.f0 = 0) : passList fst c t = passFrom fst c t c.f8.length ++ [passRet c t] := if_neg h
set_option maxHeartbeats 64000000 in
theorem gen_pass9 (c : S60) (A : Option Addr) (c0 : Nat) (t : S25) (w : World) (hk : c.f0 = 9) (hC : Kd.C (Kd.int .i64) w A c.f8.length c.f8) (hc : c.f8.length ≤ c0) (hlen : c.f8.length + 2 ≤ 1048576) :
    Calls Try.prog 24 #[.agg (List.toArray ((.int .i64 c.f0) :: (.int .i64 c.f1) :: (.int .i64 c.f2.f0) :: (.string c.f2.f1.f0) :: (.string c.f2.f1.f1) :: (.string c.f2.f1.f2) :: (.int .i64 c.f2.f2) :: (.string c.f2.f3.f0) :: [.string c.f2.f3.f1, .string c.f2.f4.f0.f0, .string c.f2.f4.f0.f1, .string c.f2.f4.f0.f2, .int .i64 c.f2.f4.f1, .string c.f2.f4.f2, .int .i64 c.f3.f0, .string c.f3.f1.f0, .string c.f3.f1.f1, .string c.f3.f1.f2, .int .i64 c.f3.f2, .string c.f3.f3.f0, .string c.f3.f3.f1, .string c.f3.f4.f0.f0, .string c.f3.f4.f0.f1, .string c.f3.f4.f0.f2, .int .i64 c.f3.f4.f1, .string c.f3.f4.f2, .string c.f4.f0.f0, .string c.f4.f0.f1, .string c.f4.f0.f2, .int .i64 c.f4.f1, .string c.f4.f2, .string c.f5.f0, .string c.f5.f1, .string c.f6, .string c.f7.f0, .string c.f7.f1, .string c.f7.f2, .slice A c.f8.length c0])), .agg #[.string t.f0, .string t.f1, .string t.f2]] w fun e w' => ∃ v', e = .returned v' ∧ Kd.R k60 60 w' w.heap.size (fun _ => True) v' (passList 0 c t) ∧ Below w.heap.size w w' := by
  have hab := below_alloc (below_alloc (below_alloc (Below.refl w.heap.size w) (Obj.cells (List.toArray ((.int .i64 c.f0) :: (.int .i64 c.f1) :: (.int .i64 c.f2.f0) :: (.string c.f2.f1.f0) :: (.string c.f2.f1.f1) :: (.string c.f2.f1.f2) :: (.int .i64 c.f2.f2) :: (.string c.f2.f3.f0) :: [.string c.f2.f3.f1, .string c.f2.f4.f0.f0, .string c.f2.f4.f0.f1, .string c.f2.f4.f0.f2, .int .i64 c.f2.f4.f1, .string c.f2.f4.f2, .int .i64 c.f3.f0, .string c.f3.f1.f0, .string c.f3.f1.f1, .string c.f3.f1.f2, .int .i64 c.f3.f2, .string c.f3.f3.f0, .string c.f3.f3.f1, .string c.f3.f4.f0.f0, .string c.f3.f4.f0.f1, .string c.f3.f4.f0.f2, .int .i64 c.f3.f4.f1, .string c.f3.f4.f2, .string c.f4.f0.f0, .string c.f4.f0.f1, .string c.f4.f0.f2, .int .i64 c.f4.f1, .string c.f4.f2, .string c.f5.f0, .string c.f5.f1, .string c.f6, .string c.f7.f0, .string c.f7.f1, .string c.f7.f2, .slice A c.f8.length c0])) 60)) (Obj.cells #[.string t.f0, .string t.f1, .string t.f2] 25)) (Obj.cells #[.slice none 0 0, .slice none 0 0, .string ⟨#[]⟩, .string ⟨#[]⟩, .string ⟨#[]⟩, .string c.f4.f0.f0, .string c.f4.f0.f1, .string c.f4.f0.f2, .int .i64 c.f1, .int .i64 0, .int .i64 0, .int .i64 0, .int .i64 0, .int .i64 0, .string ⟨#[]⟩, .string ⟨#[]⟩, .string ⟨#[]⟩, .slice none 0 0, .slice none 0 0] 85)
  have h0 := blk_alloc (blk_alloc (World.alloc_heap_new w (Obj.cells (List.toArray ((.int .i64 c.f0) :: (.int .i64 c.f1) :: (.int .i64 c.f2.f0) :: (.string c.f2.f1.f0) :: (.string c.f2.f1.f1) :: (.string c.f2.f1.f2) :: (.int .i64 c.f2.f2) :: (.string c.f2.f3.f0) :: [.string c.f2.f3.f1, .string c.f2.f4.f0.f0, .string c.f2.f4.f0.f1, .string c.f2.f4.f0.f2, .int .i64 c.f2.f4.f1, .string c.f2.f4.f2, .int .i64 c.f3.f0, .string c.f3.f1.f0, .string c.f3.f1.f1, .string c.f3.f1.f2, .int .i64 c.f3.f2, .string c.f3.f3.f0, .string c.f3.f3.f1, .string c.f3.f4.f0.f0, .string c.f3.f4.f0.f1, .string c.f3.f4.f0.f2, .int .i64 c.f3.f4.f1, .string c.f3.f4.f2, .string c.f4.f0.f0, .string c.f4.f0.f1, .string c.f4.f0.f2, .int .i64 c.f4.f1, .string c.f4.f2, .string c.f5.f0, .string c.f5.f1, .string c.f6, .string c.f7.f0, .string c.f7.f1, .string c.f7.f2, .slice A c.f8.length c0])) 60)) (Obj.cells #[.string t.f0, .string t.f1, .string t.f2] 25)) (Obj.cells #[.slice none 0 0, .slice none 0 0, .string ⟨#[]⟩, .string ⟨#[]⟩, .string ⟨#[]⟩, .string c.f4.f0.f0, .string c.f4.f0.f1, .string c.f4.f0.f2, .int .i64 c.f1, .int .i64 0, .int .i64 0, .int .i64 0, .int .i64 0, .int .i64 0, .string ⟨#[]⟩, .string ⟨#[]⟩, .string ⟨#[]⟩, .slice none 0 0, .slice none 0 0] 85)
  have h1 := blk_alloc (World.alloc_heap_new (w.alloc (Obj.cells (List.toArray ((.int .i64 c.f0) :: (.int .i64 c.f1) :: (.int .i64 c.f2.f0) :: (.string c.f2.f1.f0) :: (.string c.f2.f1.f1) :: (.string c.f2.f1.f2) :: (.int .i64 c.f2.f2) :: (.string c.f2.f3.f0) :: [.string c.f2.f3.f1, .string c.f2.f4.f0.f0, .string c.f2.f4.f0.f1, .string c.f2.f4.f0.f2, .int .i64 c.f2.f4.f1, .string c.f2.f4.f2, .int .i64 c.f3.f0, .string c.f3.f1.f0, .string c.f3.f1.f1, .string c.f3.f1.f2, .int .i64 c.f3.f2, .string c.f3.f3.f0, .string c.f3.f3.f1, .string c.f3.f4.f0.f0, .string c.f3.f4.f0.f1, .string c.f3.f4.f0.f2, .int .i64 c.f3.f4.f1, .string c.f3.f4.f2, .string c.f4.f0.f0, .string c.f4.f0.f1, .string c.f4.f0.f2, .int .i64 c.f4.f1, .string c.f4.f2, .string c.f5.f0, .string c.f5.f1, .string c.f6, .string c.f7.f0, .string c.f7.f1, .string c.f7.f2, .slice A c.f8.length c0])) 60)) (Obj.cells #[.string t.f0, .string t.f1, .string t.f2] 25)) (Obj.cells #[.slice none 0 0, .slice none 0 0, .string ⟨#[]⟩, .string ⟨#[]⟩, .string ⟨#[]⟩, .string c.f4.f0.f0, .string c.f4.f0.f1, .string c.f4.f0.f2, .int .i64 c.f1, .int .i64 0, .int .i64 0, .int .i64 0, .int .i64 0, .int .i64 0, .string ⟨#[]⟩, .string ⟨#[]⟩, .string ⟨#[]⟩, .slice none 0 0, .slice none 0 0] 85)
  have h2 := World.alloc_heap_new ((w.alloc (Obj.cells (List.toArray ((.int .i64 c.f0) :: (.int .i64 c.f1) :: (.int .i64 c.f2.f0) :: (.string c.f2.f1.f0) :: (.string c.f2.f1.f1) :: (.string c.f2.f1.f2) :: (.int .i64 c.f2.f2) :: (.string c.f2.f3.f0) :: [.string c.f2.f3.f1, .string c.f2.f4.f0.f0, .string c.f2.f4.f0.f1, .string c.f2.f4.f0.f2, .int .i64 c.f2.f4.f1, .string c.f2.f4.f2, .int .i64 c.f3.f0, .string c.f3.f1.f0, .string c.f3.f1.f1, .string c.f3.f1.f2, .int .i64 c.f3.f2, .string c.f3.f3.f0, .string c.f3.f3.f1, .string c.f3.f4.f0.f0, .string c.f3.f4.f0.f1, .string c.f3.f4.f0.f2, .int .i64 c.f3.f4.f1, .string c.f3.f4.f2, .string c.f4.f0.f0, .string c.f4.f0.f1, .string c.f4.f0.f2, .int .i64 c.f4.f1, .string c.f4.f2, .string c.f5.f0, .string c.f5.f1, .string c.f6, .string c.f7.f0, .string c.f7.f1, .string c.f7.f2, .slice A c.f8.length c0])) 60)).alloc (Obj.cells #[.string t.f0, .string t.f1, .string t.f2] 25)) (Obj.cells #[.slice none 0 0, .slice none 0 0, .string ⟨#[]⟩, .string ⟨#[]⟩, .string ⟨#[]⟩, .string c.f4.f0.f0, .string c.f4.f0.f1, .string c.f4.f0.f2, .int .i64 c.f1, .int .i64 0, .int .i64 0, .int .i64 0, .int .i64 0, .int .i64 0, .string ⟨#[]⟩, .string ⟨#[]⟩, .string ⟨#[]⟩, .slice none 0 0, .slice none 0 0] 85)
  rw [World.size_alloc] at h1
  rw [World.size_alloc, World.size_alloc] at h2
  have k10 : (c.f0 == 10) = false := by rw [hk]; rfl
  have k9 : (c.f0 == 9) = true := by rw [hk]; rfl
  have HCA := Aside0.mk hC
  have HLN := Aside0.mk hlen
  obtain ⟨n, hn⟩ : ∃ n, n = c.f8.length := ⟨_, rfl⟩
  have HMK : Aside0 (MkOwn ((((w.alloc (Obj.cells (List.toArray ((.int .i64 c.f0) :: (.int .i64 c.f1) :: (.int .i64 c.f2.f0) :: (.string c.f2.f1.f0) :: (.string c.f2.f1.f1) :: (.string c.f2.f1.f2) :: (.int .i64 c.f2.f2) :: (.string c.f2.f3.f0) :: [.string c.f2.f3.f1, .string c.f2.f4.f0.f0, .string c.f2.f4.f0.f1, .string c.f2.f4.f0.f2, .int .i64 c.f2.f4.f1, .string c.f2.f4.f2, .int .i64 c.f3.f0, .string c.f3.f1.f0, .string c.f3.f1.f1, .string c.f3.f1.f2, .int .i64 c.f3.f2, .string c.f3.f3.f0, .string c.f3.f3.f1, .string c.f3.f4.f0.f0, .string c.f3.f4.f0.f1, .string c.f3.f4.f0.f2, .int .i64 c.f3.f4.f1, .string c.f3.f4.f2, .string c.f4.f0.f0, .string c.f4.f0.f1, .string c.f4.f0.f2, .int .i64 c.f4.f1, .string c.f4.f2, .string c.f5.f0, .string c.f5.f1, .string c.f6, .string c.f7.f0, .string c.f7.f1, .string c.f7.f2, .slice A c.f8.length c0])) 60)).alloc (Obj.cells #[.string t.f0, .string t.f1, .string t.f2] 25))).alloc (Obj.cells #[.slice none 0 0, .slice none 0 0, .string ⟨#[]⟩, .string ⟨#[]⟩, .string ⟨#[]⟩, .string c.f4.f0.f0, .string c.f4.f0.f1, .string c.f4.f0.f2, .int .i64 c.f1, .int .i64 0, .int .i64 0, .int .i64 0, .int .i64 0, .int .i64 0, .string ⟨#[]⟩, .string ⟨#[]⟩, .string ⟨#[]⟩, .slice none 0 0, .slice none 0 0] 85)) (w.heap.size + 2) (w.heap.size + 2) (.slice none 0 0) (.slice none 0 0) (.string ⟨#[]⟩) (.string ⟨#[]⟩) (.string ⟨#[]⟩) c.f4.f0 c.f1 (.int .i64 0) (.int .i64 0) (.int .i64 0) (.int .i64 0) (.int .i64 0) (.string ⟨#[]⟩) (.string ⟨#[]⟩) (.string ⟨#[]⟩) (.slice none 0 0) (.slice none 0 0) (passFrom 0 c t 0)) := ⟨⟨h2, Nat.le_refl _, Kd.R_nil _ _ _ _ _⟩⟩
  have H0 := Aside0.mk h0
  have H1 := Aside0.mk h1
  have HAB := Aside0.mk hab
  have HSZ : Aside0 (((((w.alloc (Obj.cells (List.toArray ((.int .i64 c.f0) :: (.int .i64 c.f1) :: (.int .i64 c.f2.f0) :: (.string c.f2.f1.f0) :: (.string c.f2.f1.f1) :: (.string c.f2.f1.f2) :: (.int .i64 c.f2.f2) :: (.string c.f2.f3.f0) :: [.string c.f2.f3.f1, .string c.f2.f4.f0.f0, .string c.f2.f4.f0.f1, .string c.f2.f4.f0.f2, .int .i64 c.f2.f4.f1, .string c.f2.f4.f2, .int .i64 c.f3.f0, .string c.f3.f1.f0, .string c.f3.f1.f1, .string c.f3.f1.f2, .int .i64 c.f3.f2, .string c.f3.f3.f0, .string c.f3.f3.f1, .string c.f3.f4.f0.f0, .string c.f3.f4.f0.f1, .string c.f3.f4.f0.f2, .int .i64 c.f3.f4.f1, .string c.f3.f4.f2, .string c.f4.f0.f0, .string c.f4.f0.f1, .string c.f4.f0.f2, .int .i64 c.f4.f1, .string c.f4.f2, .string c.f5.f0, .string c.f5.f1, .string c.f6, .string c.f7.f0, .string c.f7.f1, .string c.f7.f2, .slice A c.f8.length c0])) 60)).alloc (Obj.cells #[.string t.f0, .string t.f1, .string t.f2] 25))).alloc (Obj.cells #[.slice none 0 0, .slice none 0 0, .string ⟨#[]⟩, .string ⟨#[]⟩, .string ⟨#[]⟩, .string c.f4.f0.f0, .string c.f4.f0.f1, .string c.f4.f0.f2, .int .i64 c.f1, .int .i64 0, .int .i64 0, .int .i64 0, .int .i64 0, .int .i64 0, .string ⟨#[]⟩, .string ⟨#[]⟩, .string ⟨#[]⟩, .slice none 0 0, .slice none 0 0] 85)).heap.size = w.heap.size + 3) := ⟨by rw [World.size_alloc, World.size_alloc, World.size_alloc]⟩
  clear hk hC h0 h1 h2 hlen hab
  go_enter Try.func24, Try.ntmps24
  go_wp2_with fail
  generalize ((((w.alloc (Obj.cells (List.toArray ((.int .i64 c.f0) :: (.int .i64 c.f1) :: (.int .i64 c.f2.f0) :: (.string c.f2.f1.f0) :: (.string c.f2.f1.f1) :: (.string c.f2.f1.f2) :: (.int .i64 c.f2.f2) :: (.string c.f2.f3.f0) :: [.string c.f2.f3.f1, .string c.f2.f4.f0.f0, .string c.f2.f4.f0.f1, .string c.f2.f4.f0.f2, .int .i64 c.f2.f4.f1, .string c.f2.f4.f2, .int .i64 c.f3.f0, .string c.f3.f1.f0, .string c.f3.f1.f1, .string c.f3.f1.f2, .int .i64 c.f3.f2, .string c.f3.f3.f0, .string c.f3.f3.f1, .string c.f3.f4.f0.f0, .string c.f3.f4.f0.f1, .string c.f3.f4.f0.f2, .int .i64 c.f3.f4.f1, .string c.f3.f4.f2, .string c.f4.f0.f0, .string c.f4.f0.f1, .string c.f4.f0.f2, .int .i64 c.f4.f1, .string c.f4.f2, .string c.f5.f0, .string c.f5.f1, .string c.f6, .string c.f7.f0, .string c.f7.f1, .string c.f7.f2, .slice A c.f8.length c0])) 60)).alloc (Obj.cells #[.string t.f0, .string t.f1, .string t.f2] 25))).alloc (Obj.cells #[.slice none 0 0, .slice none 0 0, .string ⟨#[]⟩, .string ⟨#[]⟩, .string ⟨#[]⟩, .string c.f4.f0.f0, .string c.f4.f0.f1, .string c.f4.f0.f2, .int .i64 c.f1, .int .i64 0, .int .i64 0, .int .i64 0, .int .i64 0, .int .i64 0, .string ⟨#[]⟩, .string ⟨#[]⟩, .string ⟨#[]⟩, .slice none 0 0, .slice none 0 0] 85)) = W2 at HMK H0 H1 HAB HSZ ⊢
  generalize Value.agg (List.toArray ((.int .i64 c.f0) :: (.int .i64 c.f1) :: (.int .i64 c.f2.f0) :: (.string c.f2.f1.f0) :: (.string c.f2.f1.f1) :: (.string c.f2.f1.f2) :: (.int .i64 c.f2.f2) :: (.string c.f2.f3.f0) :: [.string c.f2.f3.f1, .string c.f2.f4.f0.f0, .string c.f2.f4.f0.f1, .string c.f2.f4.f0.f2, .int .i64 c.f2.f4.f1, .string c.f2.f4.f2, .int .i64 c.f3.f0, .string c.f3.f1.f0, .string c.f3.f1.f1, .string c.f3.f1.f2, .int .i64 c.f3.f2, .string c.f3.f3.f0, .string c.f3.f3.f1, .string c.f3.f4.f0.f0, .string c.f3.f4.f0.f1, .string c.f3.f4.f0.f2, .int .i64 c.f3.f4.f1, .string c.f3.f4.f2, .string c.f4.f0.f0, .string c.f4.f0.f1, .string c.f4.f0.f2, .int .i64 c.f4.f1, .string c.f4.f2, .string c.f5.f0, .string c.f5.f1, .string c.f6, .string c.f7.f0, .string c.f7.f1, .string c.f7.f2, .slice A c.f8.length c0])) = cv
  rw [← hn]
  have HNN := Aside0.mk hn
  clear hn
  go_loopg [24] n (fun kq v24 wr => ∃ (i : Nat) (v : Value), v24 = .int .i64 (i : Int) ∧ i + kq = n ∧ Aside0 (MkOwn wr (w.heap.size + 2) (w.heap.size + 2) (.slice none 0 0) (.slice none 0 0) (.string ⟨#[]⟩) (.string ⟨#[]⟩) (.string ⟨#[]⟩) c.f4.f0 c.f1 (.int .i64 0) (.int .i64 0) (.int .i64 0) (.int .i64 0) (.int .i64 0) (.string ⟨#[]⟩) (.string ⟨#[]⟩) (.string ⟨#[]⟩) (.slice none 0 0) v (passFrom 0 c t i)) ∧ Aside0 (Below (w.heap.size + 2) W2 wr))
  case atStart => exact ⟨0, .slice none 0 0, rfl, by omega, HMK, ⟨Below.refl _ _⟩⟩
  case round =>
    obtain ⟨i, v, rfl, hi, HM, HBL⟩ := hrel
    have b0 := (HBL.out.block w.heap.size (by omega)).trans H0.out
    have b1 := (HBL.out.block (w.heap.size + 1) (by omega)).trans H1.out
    by_cases hlt : i < n
    · have hltX : i < c.f8.length := by rw [← HNN.out]; exact hlt
      have hd : decide ((i : Int) < (n : Int)) = true := decide_eq_true (by omega)
      have hi0 : (0 : Int) ≤ (i : Int) := by omega
      have hi1 : (i : Int) < (n : Int) := by omega
      have HLT := Aside0.mk hlt
      by_cases hge : 0 ≤ i
      · have hg0 : decide ((i : Int) ≥ 0) = true := decide_eq_true (by omega)
        have HCR := Aside0.mk (Kd.C_below HCA.out ((HAB.out).trans (HBL.out.mono (by omega))))
        obtain ⟨ad, hA, hcell⟩ := int_at HCR.out i hltX
        obtain ⟨x, hx⟩ : ∃ x, c.f8.getD i 0 = x := ⟨_, rfl⟩
        rw [hx] at hcell
        subst hA
        have HBX : Aside0 (Below (w.heap.size + 2) W2 wr.drew) := ⟨HBL.out.trans (below_drew1 (Below.refl _ _))⟩
        have HMX : Aside0 (MkOwn wr.drew (w.heap.size + 2) (w.heap.size + 2) (.slice none 0 0) (.slice none 0 0) (.string ⟨#[]⟩) (.string ⟨#[]⟩) (.string ⟨#[]⟩) c.f4.f0 c.f1 (.int .i64 0) (.int .i64 0) (.int .i64 0) (.int .i64 0) (.int .i64 0) (.string ⟨#[]⟩) (.string ⟨#[]⟩) (.string ⟨#[]⟩) (.slice none 0 0) v (passFrom 0 c t i)) := ⟨HM.out.below (below_drew1 (Below.refl _ _)) (Nat.le_trans (by have := HSZ.out; omega) HBL.out.size)⟩
        have HSX : Aside0 (w.heap.size + 2 ≤ wr.drew.heap.size) := ⟨Nat.le_trans (by have := HSZ.out; omega) HBX.out.size⟩
        have HLI : Aside0 ((passFrom 0 c t i).length ≤ 1048576) := ⟨Nat.le_trans (passFrom_len _ _ _ _) (by have h1 := HLN.out; have h2 := HNN.out; omega)⟩
        have z0 : wr.drew.cell? ⟨w.heap.size, 37, none⟩ = some (.slice (some ad) n c0) := by rw [HNN.out]; exact blk_cell b0 37
        have z1 : wr.drew.cell? ⟨w.heap.size + 1, 0, none⟩ = some (.string t.f0) := blk_cell b1 0
        have z2 : wr.drew.cell? ⟨w.heap.size + 1, 1, none⟩ = some (.string t.f1) := blk_cell b1 1
        have z3 : wr.drew.cell? ⟨w.heap.size + 1, 2, none⟩ = some (.string t.f2) := blk_cell b1 2
        have z4 : wr.drew.cell? (ad.add i) = some (.int .i64 x) := hcell
        have HX := Aside0.mk hx
        have HGE := Aside0.mk hge
        clear b0 b1 hltX hcell hx
        go_wp2_with fail
        refine start_ (n := 12) (S := fun w' => w'.cell? ⟨w.heap.size, 37, none⟩ = some (.slice (some ad) n c0) ∧ w'.cell? ⟨w.heap.size + 1, 0, none⟩ = some (.string t.f0) ∧ w'.cell? ⟨w.heap.size + 1, 1, none⟩ = some (.string t.f1) ∧ w'.cell? ⟨w.heap.size + 1, 2, none⟩ = some (.string t.f2) ∧ w'.cell? (ad.add i) = some (.int .i64 x)) (ds := [11]) #[false, false, false, false, false, false, false, false, false, false, false, false] (by kernel_rfl) rfl rfl ⟨z0, z1, z2, z3, z4⟩ (fun hHeld => ?_)
        generalize wr.drew = X at HMX HSX HBX z0 z1 z2 z3 z4 hHeld ⊢
        refine pure_ (i := 0) (N := some 30) (v := ?_) (a' := ?_) #[true, false, false, false, false, false, false, false, false, false, false, false] rfl rfl (by kernel_rfl) (fun _ _ _ h => h) (Or.inl ⟨by rfl, ?_⟩) ?_ ?_
        rotate_left
        · intro w'
          go_simp
          with_reducible rfl
        rotate_left
        · simp only [Act.put, List.setIfInBounds_toArray, List.set_cons_zero, List.set_cons_succ, i64_w, i32_w]
          rfl
        refine pure_ (i := 2) (N := some 32) (v := ?_) (a' := ?_) #[true, false, true, false, false, false, false, false, false, false, false, false] rfl rfl (by kernel_rfl) (fun _ _ _ h => h) (Or.inl ⟨by rfl, ?_⟩) ?_ ?_
        rotate_left
        · intro w'
          go_simp
          with_reducible rfl
        rotate_left
        · simp only [Act.put, List.setIfInBounds_toArray, List.set_cons_zero, List.set_cons_succ, i64_w, i32_w]
          rfl
        refine pure_ (i := 4) (N := some 34) (v := ?_) (a' := ?_) #[true, false, true, false, true, false, false, false, false, false, false, false] rfl rfl (by kernel_rfl) (fun _ _ _ h => h) (Or.inl ⟨by rfl, ?_⟩) ?_ ?_
        rotate_left
        · intro w'
          go_simp
          with_reducible rfl
        rotate_left
        · simp only [Act.put, List.setIfInBounds_toArray, List.set_cons_zero, List.set_cons_succ, i64_w, i32_w]
          rfl
        refine pure_ (i := 5) (N := some 35) (v := ?_) (a' := ?_) #[true, false, true, false, true, true, false, false, false, false, false, false] rfl rfl (by kernel_rfl) (fun _ _ _ h => h) (Or.inl ⟨by rfl, ?_⟩) ?_ ?_
        rotate_left
        · intro w'
          go_simp
          with_reducible rfl
        rotate_left
        · simp only [Act.put, List.setIfInBounds_toArray, List.set_cons_zero, List.set_cons_succ, i64_w, i32_w]
          rfl
        refine pure_ (i := 7) (N := some 37) (v := ?_) (a' := ?_) #[true, false, true, false, true, true, false, true, false, false, false, false] rfl rfl (by kernel_rfl) (fun _ _ _ h => h) (Or.inl ⟨by rfl, ?_⟩) ?_ ?_
        rotate_left
        · intro w'
          go_simp
          with_reducible rfl
        rotate_left
        · simp only [Act.put, List.setIfInBounds_toArray, List.set_cons_zero, List.set_cons_succ, i64_w, i32_w]
          rfl
        refine take_ (i := 1) (N := some 31) (v := ?_) (a' := ?_) #[true, true, true, false, true, true, false, true, false, false, false, false] rfl rfl (by kernel_rfl) (fun _ _ _ h => h) (Or.inl ⟨by rfl, ?_⟩) hHeld ?_ ?_
        rotate_left
        · rintro w' ⟨s0, s1, s2, s3, s4⟩
          go_simp
          with_reducible rfl
        rotate_left
        · simp only [Act.put, List.setIfInBounds_toArray, List.set_cons_zero, List.set_cons_succ, i64_w, i32_w]
          rfl
        refine take_ (i := 6) (N := some 36) (v := ?_) (a' := ?_) #[true, true, true, false, true, true, true, true, false, false, false, false] rfl rfl (by kernel_rfl) (fun _ _ _ h => h) (Or.inl ⟨by rfl, ?_⟩) hHeld ?_ ?_
        rotate_left
        · rintro w' ⟨s0, s1, s2, s3, s4⟩
          go_simp
          with_reducible rfl
        rotate_left
        · simp only [Act.put, List.setIfInBounds_toArray, List.set_cons_zero, List.set_cons_succ, i64_w, i32_w]
          rfl
        refine pure_ (i := 8) (N := some 38) (v := ?_) (a' := ?_) #[true, true, true, false, true, true, true, true, true, false, false, false] rfl rfl (by kernel_rfl) (fun _ _ _ h => h) (Or.inl ⟨by rfl, ?_⟩) ?_ ?_
        rotate_left
        · intro w'
          go_simp
          with_reducible rfl
        rotate_left
        · simp only [Act.put, List.setIfInBounds_toArray, List.set_cons_zero, List.set_cons_succ, i64_w, i32_w]
          rfl
        refine take_ (i := 9) (N := some 39) (v := ?_) (a' := ?_) #[true, true, true, false, true, true, true, true, true, true, false, false] rfl rfl (by kernel_rfl) (fun _ _ _ h => h) (Or.inl ⟨by rfl, ?_⟩) hHeld ?_ ?_
        rotate_left
        · rintro w' ⟨s0, s1, s2, s3, s4⟩
          go_simp
          with_reducible rfl
        rotate_left
        · simp only [Act.put, List.setIfInBounds_toArray, List.set_cons_zero, List.set_cons_succ, i64_w, i32_w]
          rfl
        refine one_ (i := 3) (N := some 33) #[true, true, true, true, true, true, true, true, true, true, false, false] rfl rfl (by kernel_rfl) (by decide) (fun K hK => ?_)
        refine goes_ Try.func13 (by kernel_rfl) rfl #[.agg #[.string t.f0, .string t.f1, .string t.f2], .int .i64 (i : Int)] (by rfl) rfl rfl (by (try simp only [List.map_toArray, List.map_cons, List.map_nil]); first | done | rfl) ?_
        refine (Q43.gen_Reg.calls t.f0 t.f1 t.f2 (i : Int) 1 t.f0 t.f1 t.f2 (i : Int) ⟨#[]⟩ ⟨#[]⟩ ⟨#[]⟩ ⟨#[]⟩ ⟨#[]⟩ 0 ⟨#[]⟩ X rfl).mono ?_
        rintro e w4 ⟨rfl, hb⟩
        refine ⟨_, rfl, ?_⟩
        have y0 := (hb.cell (World.block_lt_of_cell? _ _ z0)).trans z0
        have y1 := (hb.cell (World.block_lt_of_cell? _ _ z1)).trans z1
        have y2 := (hb.cell (World.block_lt_of_cell? _ _ z2)).trans z2
        have y3 := (hb.cell (World.block_lt_of_cell? _ _ z3)).trans z3
        have y4 := (hb.cell (World.block_lt_of_cell? _ _ z4)).trans z4
        have HM4 := Aside0.mk (HMX.out.below hb HSX.out)
        have HB4 := Aside0.mk hb
        clear hb
        refine hK.out _ _ ⟨y0, y1, y2, y3, y4⟩ (fun hHeld => ?_)
        clear hK K
        refine norm_ (a' := ?_) ?_ ?_
        rotate_left
        · show Act.put _ (some 33) _ = _
          simp only [Act.put, List.setIfInBounds_toArray, List.set_cons_zero, List.set_cons_succ, i64_w, i32_w]
          rfl
        refine one_ (i := 10) (N := some 40) #[true, true, true, true, true, true, true, true, true, true, true, false] rfl rfl (by kernel_rfl) (by decide) (fun K hK => ?_)
        refine goes_ Try.func38 (by kernel_rfl) rfl #[.pointer (some ⟨w.heap.size + 2, 0, none⟩), .int .i64 x] (by rfl) rfl rfl (by (try simp only [List.map_toArray, List.map_cons, List.map_nil]); first | done | rfl) ?_
        refine (maker_reg (w.heap.size + 2) (.slice none 0 0) (.slice none 0 0) (.string ⟨#[]⟩) (.string ⟨#[]⟩) (.string ⟨#[]⟩) c.f4.f0 c.f1 (.int .i64 0) (.int .i64 0) (.int .i64 0) (.int .i64 0) (.int .i64 0) (.string ⟨#[]⟩) (.string ⟨#[]⟩) (.string ⟨#[]⟩) (.slice none 0 0) v x w4 HM4.out.b).mono ?_
        rintro e w5 ⟨rfl, hb⟩
        refine ⟨_, rfl, ?_⟩
        have x0 := (hb.cell (World.block_lt_of_cell? _ _ y0)).trans y0
        have x1 := (hb.cell (World.block_lt_of_cell? _ _ y1)).trans y1
        have x2 := (hb.cell (World.block_lt_of_cell? _ _ y2)).trans y2
        have x3 := (hb.cell (World.block_lt_of_cell? _ _ y3)).trans y3
        have x4 := (hb.cell (World.block_lt_of_cell? _ _ y4)).trans y4
        have HM5 := Aside0.mk (HM4.out.below hb (Nat.le_trans HSX.out HB4.out.size))
        have HB5 := Aside0.mk (below_step HB4.out hb)
        clear hb
        refine hK.out _ _ ⟨x0, x1, x2, x3, x4⟩ (fun hHeld => ?_)
        clear hK K
        refine norm_ (a' := ?_) ?_ ?_
        rotate_left
        · show Act.put _ (some 40) _ = _
          simp only [Act.put, List.setIfInBounds_toArray, List.set_cons_zero, List.set_cons_succ, i64_w, i32_w]
          rfl
        refine last_ (i := 11) (N := some 41) #[true, true, true, true, true, true, true, true, true, true, true, true] rfl rfl (by kernel_rfl) (by decide) (fun K hK => ?_)
        refine goes_ Try.func37 (by kernel_rfl) rfl #[.pointer (some ⟨w.heap.size + 2, 0, none⟩), .agg #[.int .i64 1, .string t.f0, .string t.f1, .string t.f2, .int .i64 (i : Int), .string ⟨#[]⟩, .string ⟨#[]⟩, .string ⟨#[]⟩, .string ⟨#[]⟩, .string ⟨#[]⟩, .int .i64 0, .string ⟨#[]⟩], .agg #[.int .i64 1, .string c.f4.f0.f0, .string c.f4.f0.f1, .string c.f4.f0.f2, .int .i64 x, .string ⟨#[]⟩, .string ⟨#[]⟩, .string ⟨#[]⟩, .string ⟨#[]⟩, .string ⟨#[]⟩, .int .i64 0, .string ⟨#[]⟩], .string ⟨#[]⟩] (by rfl) rfl rfl (by (try simp only [List.map_toArray, List.map_cons, List.map_nil]); first | done | rfl) ?_
        refine (maker_flows (w.heap.size + 2) (w.heap.size + 2) (.slice none 0 0) (.slice none 0 0) (.string ⟨#[]⟩) (.string ⟨#[]⟩) (.string ⟨#[]⟩) c.f4.f0 c.f1 (.int .i64 0) (.int .i64 0) (.int .i64 0) (.int .i64 0) (.int .i64 0) (.string ⟨#[]⟩) (.string ⟨#[]⟩) (.string ⟨#[]⟩) (.slice none 0 0) v (passFrom 0 c t i) (⟨1, t, (i : Int), z44, z46⟩ : S50) (⟨1, c.f4.f0, x, z44, z46⟩ : S50) ⟨#[]⟩ w5 HM5.out HLI.out (Nat.le_trans HSX.out HB5.out.size)).mono ?_
        rintro e w6 ⟨v6, rfl, hm6, hb6, hk6⟩
        refine ⟨_, rfl, ?_⟩
        have HM6 := Aside0.mk hm6
        have HB6 := Aside0.mk (HBX.out.trans ((HB5.out.mono HSX.out).trans hb6))
        clear hm6 hb6 hk6
        refine hK.out _ _ ?_
        clear hK K
        refine norm_ (a' := ?_) ?_ ?_
        rotate_left
        · show Act.put _ (some 41) _ = _
          simp only [Act.put, List.setIfInBounds_toArray, List.set_cons_zero, List.set_cons_succ, i64_w, i32_w]
          rfl
        refine done_ (by kernel_rfl) ?_
        go_wp2_with fail
        go_roundg (gk - 1)
        case measure => omega
        case rel => exact ⟨i + 1, v6, by first | rw [show wrap64 ((i : Int) + 1) = ((i + 1 : Nat) : Int) from by have h1 := HLN.out; have h2 := HNN.out; have h3 := HLT.out; unfold wrap64; omega] | rfl, by omega, ⟨by rw [passFrom_ge HGE.out]; unfold passL; rw [HX.out]; exact HM6.out⟩, HB6⟩
      · exact absurd (Nat.zero_le i) hge
    · have hd : decide ((i : Int) < (n : Int)) = false := decide_eq_false (by omega)
      obtain rfl : i = n := by omega
      have e2 : wr.cell? ⟨w.heap.size, 2, none⟩ = some (.int .i64 c.f2.f0) := blk_cell b0 2
      have HBF := Aside0.mk (HAB.out.trans (HBL.out.mono (show w.heap.size ≤ w.heap.size + 2 by omega)))
      by_cases ht : c.f2.f0 = 0
      · have k0 : (c.f2.f0 != 0) = false := by rw [ht]; rfl
        have s18 : wr.cell? ⟨w.heap.size + 2, 18, none⟩ = some v := blk_cell HM.out.b 18
        have HFIN := Aside0.mk (Kd.R_lower HM.out.r (show w.heap.size ≤ w.heap.size + 2 by omega))
        have HT := Aside0.mk ht
        clear b0 b1 ht
        go_wp2_with fail
        exact bodyPost_ret (results_tmp rfl _ _ _) rfl ⟨v, rfl, by rw [passList_none HT.out, ← HNN.out]; exact HFIN.out, HBF.out⟩
      · have k0 : (c.f2.f0 != 0) = true := bne_iff_ne.2 ht
        have HBX : Aside0 (Below (w.heap.size + 2) W2 wr.drew) := ⟨HBL.out.trans (below_drew1 (Below.refl _ _))⟩
        have HMX : Aside0 (MkOwn wr.drew (w.heap.size + 2) (w.heap.size + 2) (.slice none 0 0) (.slice none 0 0) (.string ⟨#[]⟩) (.string ⟨#[]⟩) (.string ⟨#[]⟩) c.f4.f0 c.f1 (.int .i64 0) (.int .i64 0) (.int .i64 0) (.int .i64 0) (.int .i64 0) (.string ⟨#[]⟩) (.string ⟨#[]⟩) (.string ⟨#[]⟩) (.slice none 0 0) v (passFrom 0 c t i)) := ⟨HM.out.below (below_drew1 (Below.refl _ _)) (Nat.le_trans (by have := HSZ.out; omega) HBL.out.size)⟩
        have HSX : Aside0 (w.heap.size + 2 ≤ wr.drew.heap.size) := ⟨Nat.le_trans (by have := HSZ.out; omega) HBX.out.size⟩
        have HLI : Aside0 ((passFrom 0 c t i).length ≤ 1048576) := ⟨Nat.le_trans (passFrom_len _ _ _ _) (by have h1 := HLN.out; have h2 := HNN.out; omega)⟩
        have z0 : wr.drew.heap[w.heap.size]? = some (Obj.cells (List.toArray ((.int .i64 c.f0) :: (.int .i64 c.f1) :: (.int .i64 c.f2.f0) :: (.string c.f2.f1.f0) :: (.string c.f2.f1.f1) :: (.string c.f2.f1.f2) :: (.int .i64 c.f2.f2) :: (.string c.f2.f3.f0) :: [.string c.f2.f3.f1, .string c.f2.f4.f0.f0, .string c.f2.f4.f0.f1, .string c.f2.f4.f0.f2, .int .i64 c.f2.f4.f1, .string c.f2.f4.f2, .int .i64 c.f3.f0, .string c.f3.f1.f0, .string c.f3.f1.f1, .string c.f3.f1.f2, .int .i64 c.f3.f2, .string c.f3.f3.f0, .string c.f3.f3.f1, .string c.f3.f4.f0.f0, .string c.f3.f4.f0.f1, .string c.f3.f4.f0.f2, .int .i64 c.f3.f4.f1, .string c.f3.f4.f2, .string c.f4.f0.f0, .string c.f4.f0.f1, .string c.f4.f0.f2, .int .i64 c.f4.f1, .string c.f4.f2, .string c.f5.f0, .string c.f5.f1, .string c.f6, .string c.f7.f0, .string c.f7.f1, .string c.f7.f2, .slice A c.f8.length c0])) 60 (0, 0)) := b0
        have z1 : wr.drew.cell? ⟨w.heap.size + 1, 0, none⟩ = some (.string t.f0) := blk_cell b1 0
        have z2 : wr.drew.cell? ⟨w.heap.size + 1, 1, none⟩ = some (.string t.f1) := blk_cell b1 1
        have z3 : wr.drew.cell? ⟨w.heap.size + 1, 2, none⟩ = some (.string t.f2) := blk_cell b1 2
        have HT := Aside0.mk ht
        clear b0 b1 ht
        go_wp2_with fail
        refine start_ (n := 6) (S := fun w' => w'.heap[w.heap.size]? = some (Obj.cells (List.toArray ((.int .i64 c.f0) :: (.int .i64 c.f1) :: (.int .i64 c.f2.f0) :: (.string c.f2.f1.f0) :: (.string c.f2.f1.f1) :: (.string c.f2.f1.f2) :: (.int .i64 c.f2.f2) :: (.string c.f2.f3.f0) :: [.string c.f2.f3.f1, .string c.f2.f4.f0.f0, .string c.f2.f4.f0.f1, .string c.f2.f4.f0.f2, .int .i64 c.f2.f4.f1, .string c.f2.f4.f2, .int .i64 c.f3.f0, .string c.f3.f1.f0, .string c.f3.f1.f1, .string c.f3.f1.f2, .int .i64 c.f3.f2, .string c.f3.f3.f0, .string c.f3.f3.f1, .string c.f3.f4.f0.f0, .string c.f3.f4.f0.f1, .string c.f3.f4.f0.f2, .int .i64 c.f3.f4.f1, .string c.f3.f4.f2, .string c.f4.f0.f0, .string c.f4.f0.f1, .string c.f4.f0.f2, .int .i64 c.f4.f1, .string c.f4.f2, .string c.f5.f0, .string c.f5.f1, .string c.f6, .string c.f7.f0, .string c.f7.f1, .string c.f7.f2, .slice A c.f8.length c0])) 60 (0, 0)) ∧ w'.cell? ⟨w.heap.size + 1, 0, none⟩ = some (.string t.f0) ∧ w'.cell? ⟨w.heap.size + 1, 1, none⟩ = some (.string t.f1) ∧ w'.cell? ⟨w.heap.size + 1, 2, none⟩ = some (.string t.f2)) (ds := [5]) #[false, false, false, false, false, false] (by kernel_rfl) rfl rfl ⟨z0, z1, z2, z3⟩ (fun hHeld => ?_)
        generalize wr.drew = X at HMX HSX HBX z0 z1 z2 z3 hHeld ⊢
        refine pure_ (i := 0) (N := some 47) (v := ?_) (a' := ?_) #[true, false, false, false, false, false] rfl rfl (by kernel_rfl) (fun _ _ _ h => h) (Or.inl ⟨by rfl, ?_⟩) ?_ ?_
        rotate_left
        · intro w'
          go_simp
          with_reducible rfl
        rotate_left
        · simp only [Act.put, List.setIfInBounds_toArray, List.set_cons_zero, List.set_cons_succ, i64_w, i32_w]
          rfl
        refine pure_ (i := 1) (N := some 48) (v := ?_) (a' := ?_) #[true, true, false, false, false, false] rfl rfl (by kernel_rfl) (fun _ _ _ h => h) (Or.inl ⟨by rfl, ?_⟩) ?_ ?_
        rotate_left
        · intro w'
          go_simp
          with_reducible rfl
        rotate_left
        · simp only [Act.put, List.setIfInBounds_toArray, List.set_cons_zero, List.set_cons_succ, i64_w, i32_w]
          rfl
        refine take_ (i := 2) (N := some 49) (a' := ?_) #[true, true, true, false, false, false] rfl rfl (by kernel_rfl) (fun _ _ _ h => h) (yieldsIf_load_mid (by rfl) 50 (.tmp 48) rfl w.heap.size 2 rfl [.int .i64 c.f2.f0, .string c.f2.f1.f0, .string c.f2.f1.f1, .string c.f2.f1.f2, .int .i64 c.f2.f2, .string c.f2.f3.f0, .string c.f2.f3.f1, .string c.f2.f4.f0.f0, .string c.f2.f4.f0.f1, .string c.f2.f4.f0.f2, .int .i64 c.f2.f4.f1, .string c.f2.f4.f2] _ (fun w' hw' => range_blk hw'.1 2 12 _ (by kernel_rfl)) Try.underlying50 rfl (by kernel_rfl)) hHeld ?_ ?_
        rotate_left
        · simp only [Act.put, List.setIfInBounds_toArray, List.set_cons_zero, List.set_cons_succ, i64_w, i32_w]
          rfl
        refine take_ (i := 3) (N := some 50) (v := ?_) (a' := ?_) #[true, true, true, true, false, false] rfl rfl (by kernel_rfl) (fun _ _ _ h => h) (Or.inl ⟨by rfl, ?_⟩) hHeld ?_ ?_
        rotate_left
        · rintro w' ⟨s0, s1, s2, s3⟩
          go_simp
          with_reducible rfl
        rotate_left
        · simp only [Act.put, List.setIfInBounds_toArray, List.set_cons_zero, List.set_cons_succ, i64_w, i32_w]
          rfl
        refine one_ (i := 4) (N := some 51) #[true, true, true, true, true, false] rfl rfl (by kernel_rfl) (by decide) (fun K hK => ?_)
        refine goes_ Try.func15 (by kernel_rfl) rfl #[.agg #[.string t.f0, .string t.f1, .string t.f2]] (by rfl) rfl rfl (by (try simp only [List.map_toArray, List.map_cons, List.map_nil]); first | done | rfl) ?_
        refine (Q43.gen_Ret.calls t.f0 t.f1 t.f2 2 t.f0 t.f1 t.f2 0 ⟨#[]⟩ ⟨#[]⟩ ⟨#[]⟩ ⟨#[]⟩ ⟨#[]⟩ 0 ⟨#[]⟩ X rfl).mono ?_
        rintro e w4 ⟨rfl, hb⟩
        refine ⟨_, rfl, ?_⟩
        have hk0 := blk_below z0 hb
        have HM4 := Aside0.mk (HMX.out.below hb HSX.out)
        have HB4 := Aside0.mk hb
        have y1 := (hb.cell (World.block_lt_of_cell? _ _ z1)).trans z1
        have y2 := (hb.cell (World.block_lt_of_cell? _ _ z2)).trans z2
        have y3 := (hb.cell (World.block_lt_of_cell? _ _ z3)).trans z3
        clear hb
        refine hK.out _ _ ⟨hk0, y1, y2, y3⟩ (fun hHeld => ?_)
        clear hK K
        refine norm_ (a' := ?_) ?_ ?_
        rotate_left
        · show Act.put _ (some 51) _ = _
          simp only [Act.put, List.setIfInBounds_toArray, List.set_cons_zero, List.set_cons_succ, i64_w, i32_w]
          rfl
        refine last_ (i := 5) (N := some 52) #[true, true, true, true, true, true] rfl rfl (by kernel_rfl) (by decide) (fun K hK => ?_)
        refine goes_ Try.func37 (by kernel_rfl) rfl #[.pointer (some ⟨w.heap.size + 2, 0, none⟩), .agg #[.int .i64 c.f2.f0, .string c.f2.f1.f0, .string c.f2.f1.f1, .string c.f2.f1.f2, .int .i64 c.f2.f2, .string c.f2.f3.f0, .string c.f2.f3.f1, .string c.f2.f4.f0.f0, .string c.f2.f4.f0.f1, .string c.f2.f4.f0.f2, .int .i64 c.f2.f4.f1, .string c.f2.f4.f2], .agg #[.int .i64 2, .string t.f0, .string t.f1, .string t.f2, .int .i64 0, .string ⟨#[]⟩, .string ⟨#[]⟩, .string ⟨#[]⟩, .string ⟨#[]⟩, .string ⟨#[]⟩, .int .i64 0, .string ⟨#[]⟩], .string ⟨#[]⟩] (by rfl) rfl rfl (by (try simp only [List.map_toArray, List.map_cons, List.map_nil]); first | done | rfl) ?_
        refine (maker_flows (w.heap.size + 2) (w.heap.size + 2) (.slice none 0 0) (.slice none 0 0) (.string ⟨#[]⟩) (.string ⟨#[]⟩) (.string ⟨#[]⟩) c.f4.f0 c.f1 (.int .i64 0) (.int .i64 0) (.int .i64 0) (.int .i64 0) (.int .i64 0) (.string ⟨#[]⟩) (.string ⟨#[]⟩) (.string ⟨#[]⟩) (.slice none 0 0) v (passFrom 0 c t i) c.f2 (⟨2, t, 0, z44, z46⟩ : S50) ⟨#[]⟩ w4 HM4.out HLI.out (Nat.le_trans HSX.out HB4.out.size)).mono ?_
        rintro e w6 ⟨v6, rfl, hm6, hb6, hk6⟩
        refine ⟨_, rfl, ?_⟩
        have HM6 := Aside0.mk hm6
        have HB6 := Aside0.mk (HBX.out.trans ((HB4.out.mono HSX.out).trans hb6))
        clear hm6 hb6 hk6
        refine hK.out _ _ ?_
        clear hK K
        refine norm_ (a' := ?_) ?_ ?_
        rotate_left
        · show Act.put _ (some 52) _ = _
          simp only [Act.put, List.setIfInBounds_toArray, List.set_cons_zero, List.set_cons_succ, i64_w, i32_w]
          rfl
        refine done_ (by kernel_rfl) ?_
        have s18 : w6.cell? ⟨w.heap.size + 2, 18, none⟩ = some v6 := blk_cell HM6.out.b 18
        have HFIN := Aside0.mk (Kd.R_lower HM6.out.r (show w.heap.size ≤ w.heap.size + 2 by omega))
        have HBG := Aside0.mk (HAB.out.trans (HB6.out.mono (show w.heap.size ≤ w.heap.size + 2 by omega)))
        go_wp2_with fail
        exact bodyPost_ret (results_tmp rfl _ _ _) rfl ⟨v6, rfl, by rw [passList_some HT.out, ← HNN.out]; exact HFIN.out, HBG.out⟩
set_option maxHeartbeats 64000000 in
theorem gen_pass10 (c : S60) (A : Option Addr) (c0 : Nat) (t : S25) (w : World) (hk : c.f0 = 10) (hC : Kd.C (Kd.int .i64) w A c.f8.length c.f8) (hc : c.f8.length ≤ c0) (hlen : c.f8.length + 2 ≤ 1048576) :
    Calls Try.prog 24 #[.agg (List.toArray ((.int .i64 c.f0) :: (.int .i64 c.f1) :: (.int .i64 c.f2.f0) :: (.string c.f2.f1.f0) :: (.string c.f2.f1.f1) :: (.string c.f2.f1.f2) :: (.int .i64 c.f2.f2) :: (.string c.f2.f3.f0) :: [.string c.f2.f3.f1, .string c.f2.f4.f0.f0, .string c.f2.f4.f0.f1, .string c.f2.f4.f0.f2, .int .i64 c.f2.f4.f1, .string c.f2.f4.f2, .int .i64 c.f3.f0, .string c.f3.f1.f0, .string c.f3.f1.f1, .string c.f3.f1.f2, .int .i64 c.f3.f2, .string c.f3.f3.f0, .string c.f3.f3.f1, .string c.f3.f4.f0.f0, .string c.f3.f4.f0.f1, .string c.f3.f4.f0.f2, .int .i64 c.f3.f4.f1, .string c.f3.f4.f2, .string c.f4.f0.f0, .string c.f4.f0.f1, .string c.f4.f0.f2, .int .i64 c.f4.f1, .string c.f4.f2, .string c.f5.f0, .string c.f5.f1, .string c.f6, .string c.f7.f0, .string c.f7.f1, .string c.f7.f2, .slice A c.f8.length c0])), .agg #[.string t.f0, .string t.f1, .string t.f2]] w fun e w' => ∃ v', e = .returned v' ∧ Kd.R k60 60 w' w.heap.size (fun _ => True) v' (passList 1 c t) ∧ Below w.heap.size w w' := by
  have hab := below_alloc (below_alloc (below_alloc (Below.refl w.heap.size w) (Obj.cells (List.toArray ((.int .i64 c.f0) :: (.int .i64 c.f1) :: (.int .i64 c.f2.f0) :: (.string c.f2.f1.f0) :: (.string c.f2.f1.f1) :: (.string c.f2.f1.f2) :: (.int .i64 c.f2.f2) :: (.string c.f2.f3.f0) :: [.string c.f2.f3.f1, .string c.f2.f4.f0.f0, .string c.f2.f4.f0.f1, .string c.f2.f4.f0.f2, .int .i64 c.f2.f4.f1, .string c.f2.f4.f2, .int .i64 c.f3.f0, .string c.f3.f1.f0, .string c.f3.f1.f1, .string c.f3.f1.f2, .int .i64 c.f3.f2, .string c.f3.f3.f0, .string c.f3.f3.f1, .string c.f3.f4.f0.f0, .string c.f3.f4.f0.f1, .string c.f3.f4.f0.f2, .int .i64 c.f3.f4.f1, .string c.f3.f4.f2, .string c.f4.f0.f0, .string c.f4.f0.f1, .string c.f4.f0.f2, .int .i64 c.f4.f1, .string c.f4.f2, .string c.f5.f0, .string c.f5.f1, .string c.f6, .string c.f7.f0, .string c.f7.f1, .string c.f7.f2, .slice A c.f8.length c0])) 60)) (Obj.cells #[.string t.f0, .string t.f1, .string t.f2] 25)) (Obj.cells #[.slice none 0 0, .slice none 0 0, .string ⟨#[]⟩, .string ⟨#[]⟩, .string ⟨#[]⟩, .string c.f4.f0.f0, .string c.f4.f0.f1, .string c.f4.f0.f2, .int .i64 c.f1, .int .i64 0, .int .i64 0, .int .i64 0, .int .i64 0, .int .i64 0, .string ⟨#[]⟩, .string ⟨#[]⟩, .string ⟨#[]⟩, .slice none 0 0, .slice none 0 0] 85)
  have h0 := blk_alloc (blk_alloc (World.alloc_heap_new w (Obj.cells (List.toArray ((.int .i64 c.f0) :: (.int .i64 c.f1) :: (.int .i64 c.f2.f0) :: (.string c.f2.f1.f0) :: (.string c.f2.f1.f1) :: (.string c.f2.f1.f2) :: (.int .i64 c.f2.f2) :: (.string c.f2.f3.f0) :: [.string c.f2.f3.f1, .string c.f2.f4.f0.f0, .string c.f2.f4.f0.f1, .string c.f2.f4.f0.f2, .int .i64 c.f2.f4.f1, .string c.f2.f4.f2, .int .i64 c.f3.f0, .string c.f3.f1.f0, .string c.f3.f1.f1, .string c.f3.f1.f2, .int .i64 c.f3.f2, .string c.f3.f3.f0, .string c.f3.f3.f1, .string c.f3.f4.f0.f0, .string c.f3.f4.f0.f1, .string c.f3.f4.f0.f2, .int .i64 c.f3.f4.f1, .string c.f3.f4.f2, .string c.f4.f0.f0, .string c.f4.f0.f1, .string c.f4.f0.f2, .int .i64 c.f4.f1, .string c.f4.f2, .string c.f5.f0, .string c.f5.f1, .string c.f6, .string c.f7.f0, .string c.f7.f1, .string c.f7.f2, .slice A c.f8.length c0])) 60)) (Obj.cells #[.string t.f0, .string t.f1, .string t.f2] 25)) (Obj.cells #[.slice none 0 0, .slice none 0 0, .string ⟨#[]⟩, .string ⟨#[]⟩, .string ⟨#[]⟩, .string c.f4.f0.f0, .string c.f4.f0.f1, .string c.f4.f0.f2, .int .i64 c.f1, .int .i64 0, .int .i64 0, .int .i64 0, .int .i64 0, .int .i64 0, .string ⟨#[]⟩, .string ⟨#[]⟩, .string ⟨#[]⟩, .slice none 0 0, .slice none 0 0] 85)
  have h1 := blk_alloc (World.alloc_heap_new (w.alloc (Obj.cells (List.toArray ((.int .i64 c.f0) :: (.int .i64 c.f1) :: (.int .i64 c.f2.f0) :: (.string c.f2.f1.f0) :: (.string c.f2.f1.f1) :: (.string c.f2.f1.f2) :: (.int .i64 c.f2.f2) :: (.string c.f2.f3.f0) :: [.string c.f2.f3.f1, .string c.f2.f4.f0.f0, .string c.f2.f4.f0.f1, .string c.f2.f4.f0.f2, .int .i64 c.f2.f4.f1, .string c.f2.f4.f2, .int .i64 c.f3.f0, .string c.f3.f1.f0, .string c.f3.f1.f1, .string c.f3.f1.f2, .int .i64 c.f3.f2, .string c.f3.f3.f0, .string c.f3.f3.f1, .string c.f3.f4.f0.f0, .string c.f3.f4.f0.f1, .string c.f3.f4.f0.f2, .int .i64 c.f3.f4.f1, .string c.f3.f4.f2, .string c.f4.f0.f0, .string c.f4.f0.f1, .string c.f4.f0.f2, .int .i64 c.f4.f1, .string c.f4.f2, .string c.f5.f0, .string c.f5.f1, .string c.f6, .string c.f7.f0, .string c.f7.f1, .string c.f7.f2, .slice A c.f8.length c0])) 60)) (Obj.cells #[.string t.f0, .string t.f1, .string t.f2] 25)) (Obj.cells #[.slice none 0 0, .slice none 0 0, .string ⟨#[]⟩, .string ⟨#[]⟩, .string ⟨#[]⟩, .string c.f4.f0.f0, .string c.f4.f0.f1, .string c.f4.f0.f2, .int .i64 c.f1, .int .i64 0, .int .i64 0, .int .i64 0, .int .i64 0, .int .i64 0, .string ⟨#[]⟩, .string ⟨#[]⟩, .string ⟨#[]⟩, .slice none 0 0, .slice none 0 0] 85)
  have h2 := World.alloc_heap_new ((w.alloc (Obj.cells (List.toArray ((.int .i64 c.f0) :: (.int .i64 c.f1) :: (.int .i64 c.f2.f0) :: (.string c.f2.f1.f0) :: (.string c.f2.f1.f1) :: (.string c.f2.f1.f2) :: (.int .i64 c.f2.f2) :: (.string c.f2.f3.f0) :: [.string c.f2.f3.f1, .string c.f2.f4.f0.f0, .string c.f2.f4.f0.f1, .string c.f2.f4.f0.f2, .int .i64 c.f2.f4.f1, .string c.f2.f4.f2, .int .i64 c.f3.f0, .string c.f3.f1.f0, .string c.f3.f1.f1, .string c.f3.f1.f2, .int .i64 c.f3.f2, .string c.f3.f3.f0, .string c.f3.f3.f1, .string c.f3.f4.f0.f0, .string c.f3.f4.f0.f1, .string c.f3.f4.f0.f2, .int .i64 c.f3.f4.f1, .string c.f3.f4.f2, .string c.f4.f0.f0, .string c.f4.f0.f1, .string c.f4.f0.f2, .int .i64 c.f4.f1, .string c.f4.f2, .string c.f5.f0, .string c.f5.f1, .string c.f6, .string c.f7.f0, .string c.f7.f1, .string c.f7.f2, .slice A c.f8.length c0])) 60)).alloc (Obj.cells #[.string t.f0, .string t.f1, .string t.f2] 25)) (Obj.cells #[.slice none 0 0, .slice none 0 0, .string ⟨#[]⟩, .string ⟨#[]⟩, .string ⟨#[]⟩, .string c.f4.f0.f0, .string c.f4.f0.f1, .string c.f4.f0.f2, .int .i64 c.f1, .int .i64 0, .int .i64 0, .int .i64 0, .int .i64 0, .int .i64 0, .string ⟨#[]⟩, .string ⟨#[]⟩, .string ⟨#[]⟩, .slice none 0 0, .slice none 0 0] 85)
  rw [World.size_alloc] at h1
  rw [World.size_alloc, World.size_alloc] at h2
  have k10 : (c.f0 == 10) = true := by rw [hk]; rfl
  have k9 : (c.f0 == 9) = false := by rw [hk]; rfl
  have HCA := Aside0.mk hC
  have HLN := Aside0.mk hlen
  obtain ⟨n, hn⟩ : ∃ n, n = c.f8.length := ⟨_, rfl⟩
  have HMK : Aside0 (MkOwn ((((w.alloc (Obj.cells (List.toArray ((.int .i64 c.f0) :: (.int .i64 c.f1) :: (.int .i64 c.f2.f0) :: (.string c.f2.f1.f0) :: (.string c.f2.f1.f1) :: (.string c.f2.f1.f2) :: (.int .i64 c.f2.f2) :: (.string c.f2.f3.f0) :: [.string c.f2.f3.f1, .string c.f2.f4.f0.f0, .string c.f2.f4.f0.f1, .string c.f2.f4.f0.f2, .int .i64 c.f2.f4.f1, .string c.f2.f4.f2, .int .i64 c.f3.f0, .string c.f3.f1.f0, .string c.f3.f1.f1, .string c.f3.f1.f2, .int .i64 c.f3.f2, .string c.f3.f3.f0, .string c.f3.f3.f1, .string c.f3.f4.f0.f0, .string c.f3.f4.f0.f1, .string c.f3.f4.f0.f2, .int .i64 c.f3.f4.f1, .string c.f3.f4.f2, .string c.f4.f0.f0, .string c.f4.f0.f1, .string c.f4.f0.f2, .int .i64 c.f4.f1, .string c.f4.f2, .string c.f5.f0, .string c.f5.f1, .string c.f6, .string c.f7.f0, .string c.f7.f1, .string c.f7.f2, .slice A c.f8.length c0])) 60)).alloc (Obj.cells #[.string t.f0, .string t.f1, .string t.f2] 25))).alloc (Obj.cells #[.slice none 0 0, .slice none 0 0, .string ⟨#[]⟩, .string ⟨#[]⟩, .string ⟨#[]⟩, .string c.f4.f0.f0, .string c.f4.f0.f1, .string c.f4.f0.f2, .int .i64 c.f1, .int .i64 0, .int .i64 0, .int .i64 0, .int .i64 0, .int .i64 0, .string ⟨#[]⟩, .string ⟨#[]⟩, .string ⟨#[]⟩, .slice none 0 0, .slice none 0 0] 85)) (w.heap.size + 2) (w.heap.size + 2) (.slice none 0 0) (.slice none 0 0) (.string ⟨#[]⟩) (.string ⟨#[]⟩) (.string ⟨#[]⟩) c.f4.f0 c.f1 (.int .i64 0) (.int .i64 0) (.int .i64 0) (.int .i64 0) (.int .i64 0) (.string ⟨#[]⟩) (.string ⟨#[]⟩) (.string ⟨#[]⟩) (.slice none 0 0) (.slice none 0 0) (passFrom 1 c t 0)) := ⟨⟨h2, Nat.le_refl _, Kd.R_nil _ _ _ _ _⟩⟩
  have H0 := Aside0.mk h0
  have H1 := Aside0.mk h1
  have HAB := Aside0.mk hab
  have HSZ : Aside0 (((((w.alloc (Obj.cells (List.toArray ((.int .i64 c.f0) :: (.int .i64 c.f1) :: (.int .i64 c.f2.f0) :: (.string c.f2.f1.f0) :: (.string c.f2.f1.f1) :: (.string c.f2.f1.f2) :: (.int .i64 c.f2.f2) :: (.string c.f2.f3.f0) :: [.string c.f2.f3.f1, .string c.f2.f4.f0.f0, .string c.f2.f4.f0.f1, .string c.f2.f4.f0.f2, .int .i64 c.f2.f4.f1, .string c.f2.f4.f2, .int .i64 c.f3.f0, .string c.f3.f1.f0, .string c.f3.f1.f1, .string c.f3.f1.f2, .int .i64 c.f3.f2, .string c.f3.f3.f0, .string c.f3.f3.f1, .string c.f3.f4.f0.f0, .string c.f3.f4.f0.f1, .string c.f3.f4.f0.f2, .int .i64 c.f3.f4.f1, .string c.f3.f4.f2, .string c.f4.f0.f0, .string c.f4.f0.f1, .string c.f4.f0.f2, .int .i64 c.f4.f1, .string c.f4.f2, .string c.f5.f0, .string c.f5.f1, .string c.f6, .string c.f7.f0, .string c.f7.f1, .string c.f7.f2, .slice A c.f8.length c0])) 60)).alloc (Obj.cells #[.string t.f0, .string t.f1, .string t.f2] 25))).alloc (Obj.cells #[.slice none 0 0, .slice none 0 0, .string ⟨#[]⟩, .string ⟨#[]⟩, .string ⟨#[]⟩, .string c.f4.f0.f0, .string c.f4.f0.f1, .string c.f4.f0.f2, .int .i64 c.f1, .int .i64 0, .int .i64 0, .int .i64 0, .int .i64 0, .int .i64 0, .string ⟨#[]⟩, .string ⟨#[]⟩, .string ⟨#[]⟩, .slice none 0 0, .slice none 0 0] 85)).heap.size = w.heap.size + 3) := ⟨by rw [World.size_alloc, World.size_alloc, World.size_alloc]⟩
  clear hk hC h0 h1 h2 hlen hab
  go_enter Try.func24, Try.ntmps24
  go_wp2_with fail
  generalize ((((w.alloc (Obj.cells (List.toArray ((.int .i64 c.f0) :: (.int .i64 c.f1) :: (.int .i64 c.f2.f0) :: (.string c.f2.f1.f0) :: (.string c.f2.f1.f1) :: (.string c.f2.f1.f2) :: (.int .i64 c.f2.f2) :: (.string c.f2.f3.f0) :: [.string c.f2.f3.f1, .string c.f2.f4.f0.f0, .string c.f2.f4.f0.f1, .string c.f2.f4.f0.f2, .int .i64 c.f2.f4.f1, .string c.f2.f4.f2, .int .i64 c.f3.f0, .string c.f3.f1.f0, .string c.f3.f1.f1, .string c.f3.f1.f2, .int .i64 c.f3.f2, .string c.f3.f3.f0, .string c.f3.f3.f1, .string c.f3.f4.f0.f0, .string c.f3.f4.f0.f1, .string c.f3.f4.f0.f2, .int .i64 c.f3.f4.f1, .string c.f3.f4.f2, .string c.f4.f0.f0, .string c.f4.f0.f1, .string c.f4.f0.f2, .int .i64 c.f4.f1, .string c.f4.f2, .string c.f5.f0, .string c.f5.f1, .string c.f6, .string c.f7.f0, .string c.f7.f1, .string c.f7.f2, .slice A c.f8.length c0])) 60)).alloc (Obj.cells #[.string t.f0, .string t.f1, .string t.f2] 25))).alloc (Obj.cells #[.slice none 0 0, .slice none 0 0, .string ⟨#[]⟩, .string ⟨#[]⟩, .string ⟨#[]⟩, .string c.f4.f0.f0, .string c.f4.f0.f1, .string c.f4.f0.f2, .int .i64 c.f1, .int .i64 0, .int .i64 0, .int .i64 0, .int .i64 0, .int .i64 0, .string ⟨#[]⟩, .string ⟨#[]⟩, .string ⟨#[]⟩, .slice none 0 0, .slice none 0 0] 85)) = W2 at HMK H0 H1 HAB HSZ ⊢
  generalize Value.agg (List.toArray ((.int .i64 c.f0) :: (.int .i64 c.f1) :: (.int .i64 c.f2.f0) :: (.string c.f2.f1.f0) :: (.string c.f2.f1.f1) :: (.string c.f2.f1.f2) :: (.int .i64 c.f2.f2) :: (.string c.f2.f3.f0) :: [.string c.f2.f3.f1, .string c.f2.f4.f0.f0, .string c.f2.f4.f0.f1, .string c.f2.f4.f0.f2, .int .i64 c.f2.f4.f1, .string c.f2.f4.f2, .int .i64 c.f3.f0, .string c.f3.f1.f0, .string c.f3.f1.f1, .string c.f3.f1.f2, .int .i64 c.f3.f2, .string c.f3.f3.f0, .string c.f3.f3.f1, .string c.f3.f4.f0.f0, .string c.f3.f4.f0.f1, .string c.f3.f4.f0.f2, .int .i64 c.f3.f4.f1, .string c.f3.f4.f2, .string c.f4.f0.f0, .string c.f4.f0.f1, .string c.f4.f0.f2, .int .i64 c.f4.f1, .string c.f4.f2, .string c.f5.f0, .string c.f5.f1, .string c.f6, .string c.f7.f0, .string c.f7.f1, .string c.f7.f2, .slice A c.f8.length c0])) = cv
  rw [← hn]
  have HNN := Aside0.mk hn
  clear hn
  go_loopg [24] n (fun kq v24 wr => ∃ (i : Nat) (v : Value), v24 = .int .i64 (i : Int) ∧ i + kq = n ∧ Aside0 (MkOwn wr (w.heap.size + 2) (w.heap.size + 2) (.slice none 0 0) (.slice none 0 0) (.string ⟨#[]⟩) (.string ⟨#[]⟩) (.string ⟨#[]⟩) c.f4.f0 c.f1 (.int .i64 0) (.int .i64 0) (.int .i64 0) (.int .i64 0) (.int .i64 0) (.string ⟨#[]⟩) (.string ⟨#[]⟩) (.string ⟨#[]⟩) (.slice none 0 0) v (passFrom 1 c t i)) ∧ Aside0 (Below (w.heap.size + 2) W2 wr))
  case atStart => exact ⟨0, .slice none 0 0, rfl, by omega, HMK, ⟨Below.refl _ _⟩⟩
  case round =>
    obtain ⟨i, v, rfl, hi, HM, HBL⟩ := hrel
    have b0 := (HBL.out.block w.heap.size (by omega)).trans H0.out
    have b1 := (HBL.out.block (w.heap.size + 1) (by omega)).trans H1.out
    by_cases hlt : i < n
    · have hltX : i < c.f8.length := by rw [← HNN.out]; exact hlt
      have hd : decide ((i : Int) < (n : Int)) = true := decide_eq_true (by omega)
      have hi0 : (0 : Int) ≤ (i : Int) := by omega
      have hi1 : (i : Int) < (n : Int) := by omega
      have HLT := Aside0.mk hlt
      by_cases hge : 1 ≤ i
      · have hg0 : decide ((i : Int) ≥ 1) = true := decide_eq_true (by omega)
        have HCR := Aside0.mk (Kd.C_below HCA.out ((HAB.out).trans (HBL.out.mono (by omega))))
        obtain ⟨ad, hA, hcell⟩ := int_at HCR.out i hltX
        obtain ⟨x, hx⟩ : ∃ x, c.f8.getD i 0 = x := ⟨_, rfl⟩
        rw [hx] at hcell
        subst hA
        have HBX : Aside0 (Below (w.heap.size + 2) W2 wr.drew) := ⟨HBL.out.trans (below_drew1 (Below.refl _ _))⟩
        have HMX : Aside0 (MkOwn wr.drew (w.heap.size + 2) (w.heap.size + 2) (.slice none 0 0) (.slice none 0 0) (.string ⟨#[]⟩) (.string ⟨#[]⟩) (.string ⟨#[]⟩) c.f4.f0 c.f1 (.int .i64 0) (.int .i64 0) (.int .i64 0) (.int .i64 0) (.int .i64 0) (.string ⟨#[]⟩) (.string ⟨#[]⟩) (.string ⟨#[]⟩) (.slice none 0 0) v (passFrom 1 c t i)) := ⟨HM.out.below (below_drew1 (Below.refl _ _)) (Nat.le_trans (by have := HSZ.out; omega) HBL.out.size)⟩
        have HSX : Aside0 (w.heap.size + 2 ≤ wr.drew.heap.size) := ⟨Nat.le_trans (by have := HSZ.out; omega) HBX.out.size⟩
        have HLI : Aside0 ((passFrom 1 c t i).length ≤ 1048576) := ⟨Nat.le_trans (passFrom_len _ _ _ _) (by have h1 := HLN.out; have h2 := HNN.out; omega)⟩
        have z0 : wr.drew.cell? ⟨w.heap.size, 37, none⟩ = some (.slice (some ad) n c0) := by rw [HNN.out]; exact blk_cell b0 37
        have z1 : wr.drew.cell? ⟨w.heap.size + 1, 0, none⟩ = some (.string t.f0) := blk_cell b1 0
        have z2 : wr.drew.cell? ⟨w.heap.size + 1, 1, none⟩ = some (.string t.f1) := blk_cell b1 1
        have z3 : wr.drew.cell? ⟨w.heap.size + 1, 2, none⟩ = some (.string t.f2) := blk_cell b1 2
        have z4 : wr.drew.cell? (ad.add i) = some (.int .i64 x) := hcell
        have HX := Aside0.mk hx
        have HGE := Aside0.mk hge
        clear b0 b1 hltX hcell hx
        go_wp2_with fail
        refine start_ (n := 12) (S := fun w' => w'.cell? ⟨w.heap.size, 37, none⟩ = some (.slice (some ad) n c0) ∧ w'.cell? ⟨w.heap.size + 1, 0, none⟩ = some (.string t.f0) ∧ w'.cell? ⟨w.heap.size + 1, 1, none⟩ = some (.string t.f1) ∧ w'.cell? ⟨w.heap.size + 1, 2, none⟩ = some (.string t.f2) ∧ w'.cell? (ad.add i) = some (.int .i64 x)) (ds := [11]) #[false, false, false, false, false, false, false, false, false, false, false, false] (by kernel_rfl) rfl rfl ⟨z0, z1, z2, z3, z4⟩ (fun hHeld => ?_)
        generalize wr.drew = X at HMX HSX HBX z0 z1 z2 z3 z4 hHeld ⊢
        refine pure_ (i := 0) (N := some 30) (v := ?_) (a' := ?_) #[true, false, false, false, false, false, false, false, false, false, false, false] rfl rfl (by kernel_rfl) (fun _ _ _ h => h) (Or.inl ⟨by rfl, ?_⟩) ?_ ?_
        rotate_left
        · intro w'
          go_simp
          with_reducible rfl
        rotate_left
        · simp only [Act.put, List.setIfInBounds_toArray, List.set_cons_zero, List.set_cons_succ, i64_w, i32_w]
          rfl
        refine pure_ (i := 2) (N := some 32) (v := ?_) (a' := ?_) #[true, false, true, false, false, false, false, false, false, false, false, false] rfl rfl (by kernel_rfl) (fun _ _ _ h => h) (Or.inl ⟨by rfl, ?_⟩) ?_ ?_
        rotate_left
        · intro w'
          go_simp
          with_reducible rfl
        rotate_left
        · simp only [Act.put, List.setIfInBounds_toArray, List.set_cons_zero, List.set_cons_succ, i64_w, i32_w]
          rfl
        refine pure_ (i := 4) (N := some 34) (v := ?_) (a' := ?_) #[true, false, true, false, true, false, false, false, false, false, false, false] rfl rfl (by kernel_rfl) (fun _ _ _ h => h) (Or.inl ⟨by rfl, ?_⟩) ?_ ?_
        rotate_left
        · intro w'
          go_simp
          with_reducible rfl
        rotate_left
        · simp only [Act.put, List.setIfInBounds_toArray, List.set_cons_zero, List.set_cons_succ, i64_w, i32_w]
          rfl
        refine pure_ (i := 5) (N := some 35) (v := ?_) (a' := ?_) #[true, false, true, false, true, true, false, false, false, false, false, false] rfl rfl (by kernel_rfl) (fun _ _ _ h => h) (Or.inl ⟨by rfl, ?_⟩) ?_ ?_
        rotate_left
        · intro w'
          go_simp
          with_reducible rfl
        rotate_left
        · simp only [Act.put, List.setIfInBounds_toArray, List.set_cons_zero, List.set_cons_succ, i64_w, i32_w]
          rfl
        refine pure_ (i := 7) (N := some 37) (v := ?_) (a' := ?_) #[true, false, true, false, true, true, false, true, false, false, false, false] rfl rfl (by kernel_rfl) (fun _ _ _ h => h) (Or.inl ⟨by rfl, ?_⟩) ?_ ?_
        rotate_left
        · intro w'
          go_simp
          with_reducible rfl
        rotate_left
        · simp only [Act.put, List.setIfInBounds_toArray, List.set_cons_zero, List.set_cons_succ, i64_w, i32_w]
          rfl
        refine take_ (i := 1) (N := some 31) (v := ?_) (a' := ?_) #[true, true, true, false, true, true, false, true, false, false, false, false] rfl rfl (by kernel_rfl) (fun _ _ _ h => h) (Or.inl ⟨by rfl, ?_⟩) hHeld ?_ ?_
        rotate_left
        · rintro w' ⟨s0, s1, s2, s3, s4⟩
          go_simp
          with_reducible rfl
        rotate_left
        · simp only [Act.put, List.setIfInBounds_toArray, List.set_cons_zero, List.set_cons_succ, i64_w, i32_w]
          rfl
        refine take_ (i := 6) (N := some 36) (v := ?_) (a' := ?_) #[true, true, true, false, true, true, true, true, false, false, false, false] rfl rfl (by kernel_rfl) (fun _ _ _ h => h) (Or.inl ⟨by rfl, ?_⟩) hHeld ?_ ?_
        rotate_left
        · rintro w' ⟨s0, s1, s2, s3, s4⟩
          go_simp
          with_reducible rfl
        rotate_left
        · simp only [Act.put, List.setIfInBounds_toArray, List.set_cons_zero, List.set_cons_succ, i64_w, i32_w]
          rfl
        refine pure_ (i := 8) (N := some 38) (v := ?_) (a' := ?_) #[true, true, true, false, true, true, true, true, true, false, false, false] rfl rfl (by kernel_rfl) (fun _ _ _ h => h) (Or.inl ⟨by rfl, ?_⟩) ?_ ?_
        rotate_left
        · intro w'
          go_simp
          with_reducible rfl
        rotate_left
        · simp only [Act.put, List.setIfInBounds_toArray, List.set_cons_zero, List.set_cons_succ, i64_w, i32_w]
          rfl
        refine take_ (i := 9) (N := some 39) (v := ?_) (a' := ?_) #[true, true, true, false, true, true, true, true, true, true, false, false] rfl rfl (by kernel_rfl) (fun _ _ _ h => h) (Or.inl ⟨by rfl, ?_⟩) hHeld ?_ ?_
        rotate_left
        · rintro w' ⟨s0, s1, s2, s3, s4⟩
          go_simp
          with_reducible rfl
        rotate_left
        · simp only [Act.put, List.setIfInBounds_toArray, List.set_cons_zero, List.set_cons_succ, i64_w, i32_w]
          rfl
        refine one_ (i := 3) (N := some 33) #[true, true, true, true, true, true, true, true, true, true, false, false] rfl rfl (by kernel_rfl) (by decide) (fun K hK => ?_)
        refine goes_ Try.func13 (by kernel_rfl) rfl #[.agg #[.string t.f0, .string t.f1, .string t.f2], .int .i64 (i : Int)] (by rfl) rfl rfl (by (try simp only [List.map_toArray, List.map_cons, List.map_nil]); first | done | rfl) ?_
        refine (Q43.gen_Reg.calls t.f0 t.f1 t.f2 (i : Int) 1 t.f0 t.f1 t.f2 (i : Int) ⟨#[]⟩ ⟨#[]⟩ ⟨#[]⟩ ⟨#[]⟩ ⟨#[]⟩ 0 ⟨#[]⟩ X rfl).mono ?_
        rintro e w4 ⟨rfl, hb⟩
        refine ⟨_, rfl, ?_⟩
        have y0 := (hb.cell (World.block_lt_of_cell? _ _ z0)).trans z0
        have y1 := (hb.cell (World.block_lt_of_cell? _ _ z1)).trans z1
        have y2 := (hb.cell (World.block_lt_of_cell? _ _ z2)).trans z2
        have y3 := (hb.cell (World.block_lt_of_cell? _ _ z3)).trans z3
        have y4 := (hb.cell (World.block_lt_of_cell? _ _ z4)).trans z4
        have HM4 := Aside0.mk (HMX.out.below hb HSX.out)
        have HB4 := Aside0.mk hb
        clear hb
        refine hK.out _ _ ⟨y0, y1, y2, y3, y4⟩ (fun hHeld => ?_)
        clear hK K
        refine norm_ (a' := ?_) ?_ ?_
        rotate_left
        · show Act.put _ (some 33) _ = _
          simp only [Act.put, List.setIfInBounds_toArray, List.set_cons_zero, List.set_cons_succ, i64_w, i32_w]
          rfl
        refine one_ (i := 10) (N := some 40) #[true, true, true, true, true, true, true, true, true, true, true, false] rfl rfl (by kernel_rfl) (by decide) (fun K hK => ?_)
        refine goes_ Try.func38 (by kernel_rfl) rfl #[.pointer (some ⟨w.heap.size + 2, 0, none⟩), .int .i64 x] (by rfl) rfl rfl (by (try simp only [List.map_toArray, List.map_cons, List.map_nil]); first | done | rfl) ?_
        refine (maker_reg (w.heap.size + 2) (.slice none 0 0) (.slice none 0 0) (.string ⟨#[]⟩) (.string ⟨#[]⟩) (.string ⟨#[]⟩) c.f4.f0 c.f1 (.int .i64 0) (.int .i64 0) (.int .i64 0) (.int .i64 0) (.int .i64 0) (.string ⟨#[]⟩) (.string ⟨#[]⟩) (.string ⟨#[]⟩) (.slice none 0 0) v x w4 HM4.out.b).mono ?_
        rintro e w5 ⟨rfl, hb⟩
        refine ⟨_, rfl, ?_⟩
        have x0 := (hb.cell (World.block_lt_of_cell? _ _ y0)).trans y0
        have x1 := (hb.cell (World.block_lt_of_cell? _ _ y1)).trans y1
        have x2 := (hb.cell (World.block_lt_of_cell? _ _ y2)).trans y2
        have x3 := (hb.cell (World.block_lt_of_cell? _ _ y3)).trans y3
        have x4 := (hb.cell (World.block_lt_of_cell? _ _ y4)).trans y4
        have HM5 := Aside0.mk (HM4.out.below hb (Nat.le_trans HSX.out HB4.out.size))
        have HB5 := Aside0.mk (below_step HB4.out hb)
        clear hb
        refine hK.out _ _ ⟨x0, x1, x2, x3, x4⟩ (fun hHeld => ?_)
        clear hK K
        refine norm_ (a' := ?_) ?_ ?_
        rotate_left
        · show Act.put _ (some 40) _ = _
          simp only [Act.put, List.setIfInBounds_toArray, List.set_cons_zero, List.set_cons_succ, i64_w, i32_w]
          rfl
        refine last_ (i := 11) (N := some 41) #[true, true, true, true, true, true, true, true, true, true, true, true] rfl rfl (by kernel_rfl) (by decide) (fun K hK => ?_)
        refine goes_ Try.func37 (by kernel_rfl) rfl #[.pointer (some ⟨w.heap.size + 2, 0, none⟩), .agg #[.int .i64 1, .string t.f0, .string t.f1, .string t.f2, .int .i64 (i : Int), .string ⟨#[]⟩, .string ⟨#[]⟩, .string ⟨#[]⟩, .string ⟨#[]⟩, .string ⟨#[]⟩, .int .i64 0, .string ⟨#[]⟩], .agg #[.int .i64 1, .string c.f4.f0.f0, .string c.f4.f0.f1, .string c.f4.f0.f2, .int .i64 x, .string ⟨#[]⟩, .string ⟨#[]⟩, .string ⟨#[]⟩, .string ⟨#[]⟩, .string ⟨#[]⟩, .int .i64 0, .string ⟨#[]⟩], .string ⟨#[]⟩] (by rfl) rfl rfl (by (try simp only [List.map_toArray, List.map_cons, List.map_nil]); first | done | rfl) ?_
        refine (maker_flows (w.heap.size + 2) (w.heap.size + 2) (.slice none 0 0) (.slice none 0 0) (.string ⟨#[]⟩) (.string ⟨#[]⟩) (.string ⟨#[]⟩) c.f4.f0 c.f1 (.int .i64 0) (.int .i64 0) (.int .i64 0) (.int .i64 0) (.int .i64 0) (.string ⟨#[]⟩) (.string ⟨#[]⟩) (.string ⟨#[]⟩) (.slice none 0 0) v (passFrom 1 c t i) (⟨1, t, (i : Int), z44, z46⟩ : S50) (⟨1, c.f4.f0, x, z44, z46⟩ : S50) ⟨#[]⟩ w5 HM5.out HLI.out (Nat.le_trans HSX.out HB5.out.size)).mono ?_
        rintro e w6 ⟨v6, rfl, hm6, hb6, hk6⟩
        refine ⟨_, rfl, ?_⟩
        have HM6 := Aside0.mk hm6
        have HB6 := Aside0.mk (HBX.out.trans ((HB5.out.mono HSX.out).trans hb6))
        clear hm6 hb6 hk6
        refine hK.out _ _ ?_
        clear hK K
        refine norm_ (a' := ?_) ?_ ?_
        rotate_left
        · show Act.put _ (some 41) _ = _
          simp only [Act.put, List.setIfInBounds_toArray, List.set_cons_zero, List.set_cons_succ, i64_w, i32_w]
          rfl
        refine done_ (by kernel_rfl) ?_
        go_wp2_with fail
        go_roundg (gk - 1)
        case measure => omega
        case rel => exact ⟨i + 1, v6, by first | rw [show wrap64 ((i : Int) + 1) = ((i + 1 : Nat) : Int) from by have h1 := HLN.out; have h2 := HNN.out; have h3 := HLT.out; unfold wrap64; omega] | rfl, by omega, ⟨by rw [passFrom_ge HGE.out]; unfold passL; rw [HX.out]; exact HM6.out⟩, HB6⟩
      · have hg0 : decide ((i : Int) ≥ 1) = false := decide_eq_false (by omega)
        have HGE := Aside0.mk hge
        clear b0 b1 hltX
        go_wp2_with fail
        go_roundg (gk - 1)
        case measure => omega
        case rel => exact ⟨i + 1, v, by first | rw [show wrap64 ((i : Int) + 1) = ((i + 1 : Nat) : Int) from by have h1 := HLN.out; have h2 := HNN.out; have h3 := HLT.out; unfold wrap64; omega] | rfl, by omega, ⟨by rw [passFrom_lt HGE.out]; exact HM.out⟩, HBL⟩
    · have hd : decide ((i : Int) < (n : Int)) = false := decide_eq_false (by omega)
      obtain rfl : i = n := by omega
      have e2 : wr.cell? ⟨w.heap.size, 2, none⟩ = some (.int .i64 c.f2.f0) := blk_cell b0 2
      have HBF := Aside0.mk (HAB.out.trans (HBL.out.mono (show w.heap.size ≤ w.heap.size + 2 by omega)))
      by_cases ht : c.f2.f0 = 0
      · have k0 : (c.f2.f0 != 0) = false := by rw [ht]; rfl
        have s18 : wr.cell? ⟨w.heap.size + 2, 18, none⟩ = some v := blk_cell HM.out.b 18
        have HFIN := Aside0.mk (Kd.R_lower HM.out.r (show w.heap.size ≤ w.heap.size + 2 by omega))
        have HT := Aside0.mk ht
        clear b0 b1 ht
        go_wp2_with fail
        exact bodyPost_ret (results_tmp rfl _ _ _) rfl ⟨v, rfl, by rw [passList_none HT.out, ← HNN.out]; exact HFIN.out, HBF.out⟩
      · have k0 : (c.f2.f0 != 0) = true := bne_iff_ne.2 ht
        have HBX : Aside0 (Below (w.heap.size + 2) W2 wr.drew) := ⟨HBL.out.trans (below_drew1 (Below.refl _ _))⟩
        have HMX : Aside0 (MkOwn wr.drew (w.heap.size + 2) (w.heap.size + 2) (.slice none 0 0) (.slice none 0 0) (.string ⟨#[]⟩) (.string ⟨#[]⟩) (.string ⟨#[]⟩) c.f4.f0 c.f1 (.int .i64 0) (.int .i64 0) (.int .i64 0) (.int .i64 0) (.int .i64 0) (.string ⟨#[]⟩) (.string ⟨#[]⟩) (.string ⟨#[]⟩) (.slice none 0 0) v (passFrom 1 c t i)) := ⟨HM.out.below (below_drew1 (Below.refl _ _)) (Nat.le_trans (by have := HSZ.out; omega) HBL.out.size)⟩
        have HSX : Aside0 (w.heap.size + 2 ≤ wr.drew.heap.size) := ⟨Nat.le_trans (by have := HSZ.out; omega) HBX.out.size⟩
        have HLI : Aside0 ((passFrom 1 c t i).length ≤ 1048576) := ⟨Nat.le_trans (passFrom_len _ _ _ _) (by have h1 := HLN.out; have h2 := HNN.out; omega)⟩
        have z0 : wr.drew.heap[w.heap.size]? = some (Obj.cells (List.toArray ((.int .i64 c.f0) :: (.int .i64 c.f1) :: (.int .i64 c.f2.f0) :: (.string c.f2.f1.f0) :: (.string c.f2.f1.f1) :: (.string c.f2.f1.f2) :: (.int .i64 c.f2.f2) :: (.string c.f2.f3.f0) :: [.string c.f2.f3.f1, .string c.f2.f4.f0.f0, .string c.f2.f4.f0.f1, .string c.f2.f4.f0.f2, .int .i64 c.f2.f4.f1, .string c.f2.f4.f2, .int .i64 c.f3.f0, .string c.f3.f1.f0, .string c.f3.f1.f1, .string c.f3.f1.f2, .int .i64 c.f3.f2, .string c.f3.f3.f0, .string c.f3.f3.f1, .string c.f3.f4.f0.f0, .string c.f3.f4.f0.f1, .string c.f3.f4.f0.f2, .int .i64 c.f3.f4.f1, .string c.f3.f4.f2, .string c.f4.f0.f0, .string c.f4.f0.f1, .string c.f4.f0.f2, .int .i64 c.f4.f1, .string c.f4.f2, .string c.f5.f0, .string c.f5.f1, .string c.f6, .string c.f7.f0, .string c.f7.f1, .string c.f7.f2, .slice A c.f8.length c0])) 60 (0, 0)) := b0
        have z1 : wr.drew.cell? ⟨w.heap.size + 1, 0, none⟩ = some (.string t.f0) := blk_cell b1 0
        have z2 : wr.drew.cell? ⟨w.heap.size + 1, 1, none⟩ = some (.string t.f1) := blk_cell b1 1
        have z3 : wr.drew.cell? ⟨w.heap.size + 1, 2, none⟩ = some (.string t.f2) := blk_cell b1 2
        have HT := Aside0.mk ht
        clear b0 b1 ht
        go_wp2_with fail
        refine start_ (n := 6) (S := fun w' => w'.heap[w.heap.size]? = some (Obj.cells (List.toArray ((.int .i64 c.f0) :: (.int .i64 c.f1) :: (.int .i64 c.f2.f0) :: (.string c.f2.f1.f0) :: (.string c.f2.f1.f1) :: (.string c.f2.f1.f2) :: (.int .i64 c.f2.f2) :: (.string c.f2.f3.f0) :: [.string c.f2.f3.f1, .string c.f2.f4.f0.f0, .string c.f2.f4.f0.f1, .string c.f2.f4.f0.f2, .int .i64 c.f2.f4.f1, .string c.f2.f4.f2, .int .i64 c.f3.f0, .string c.f3.f1.f0, .string c.f3.f1.f1, .string c.f3.f1.f2, .int .i64 c.f3.f2, .string c.f3.f3.f0, .string c.f3.f3.f1, .string c.f3.f4.f0.f0, .string c.f3.f4.f0.f1, .string c.f3.f4.f0.f2, .int .i64 c.f3.f4.f1, .string c.f3.f4.f2, .string c.f4.f0.f0, .string c.f4.f0.f1, .string c.f4.f0.f2, .int .i64 c.f4.f1, .string c.f4.f2, .string c.f5.f0, .string c.f5.f1, .string c.f6, .string c.f7.f0, .string c.f7.f1, .string c.f7.f2, .slice A c.f8.length c0])) 60 (0, 0)) ∧ w'.cell? ⟨w.heap.size + 1, 0, none⟩ = some (.string t.f0) ∧ w'.cell? ⟨w.heap.size + 1, 1, none⟩ = some (.string t.f1) ∧ w'.cell? ⟨w.heap.size + 1, 2, none⟩ = some (.string t.f2)) (ds := [5]) #[false, false, false, false, false, false] (by kernel_rfl) rfl rfl ⟨z0, z1, z2, z3⟩ (fun hHeld => ?_)
        generalize wr.drew = X at HMX HSX HBX z0 z1 z2 z3 hHeld ⊢
        refine pure_ (i := 0) (N := some 47) (v := ?_) (a' := ?_) #[true, false, false, false, false, false] rfl rfl (by kernel_rfl) (fun _ _ _ h => h) (Or.inl ⟨by rfl, ?_⟩) ?_ ?_
        rotate_left
        · intro w'
          go_simp
          with_reducible rfl
        rotate_left
        · simp only [Act.put, List.setIfInBounds_toArray, List.set_cons_zero, List.set_cons_succ, i64_w, i32_w]
          rfl
        refine pure_ (i := 1) (N := some 48) (v := ?_) (a' := ?_) #[true, true, false, false, false, false] rfl rfl (by kernel_rfl) (fun _ _ _ h => h) (Or.inl ⟨by rfl, ?_⟩) ?_ ?_
        rotate_left
        · intro w'
          go_simp
          with_reducible rfl
        rotate_left
        · simp only [Act.put, List.setIfInBounds_toArray, List.set_cons_zero, List.set_cons_succ, i64_w, i32_w]
          rfl
        refine take_ (i := 2) (N := some 49) (a' := ?_) #[true, true, true, false, false, false] rfl rfl (by kernel_rfl) (fun _ _ _ h => h) (yieldsIf_load_mid (by rfl) 50 (.tmp 48) rfl w.heap.size 2 rfl [.int .i64 c.f2.f0, .string c.f2.f1.f0, .string c.f2.f1.f1, .string c.f2.f1.f2, .int .i64 c.f2.f2, .string c.f2.f3.f0, .string c.f2.f3.f1, .string c.f2.f4.f0.f0, .string c.f2.f4.f0.f1, .string c.f2.f4.f0.f2, .int .i64 c.f2.f4.f1, .string c.f2.f4.f2] _ (fun w' hw' => range_blk hw'.1 2 12 _ (by kernel_rfl)) Try.underlying50 rfl (by kernel_rfl)) hHeld ?_ ?_
        rotate_left
        · simp only [Act.put, List.setIfInBounds_toArray, List.set_cons_zero, List.set_cons_succ, i64_w, i32_w]
          rfl
        refine take_ (i := 3) (N := some 50) (v := ?_) (a' := ?_) #[true, true, true, true, false, false] rfl rfl (by kernel_rfl) (fun _ _ _ h => h) (Or.inl ⟨by rfl, ?_⟩) hHeld ?_ ?_
        rotate_left
        · rintro w' ⟨s0, s1, s2, s3⟩
          go_simp
          with_reducible rfl
        rotate_left
        · simp only [Act.put, List.setIfInBounds_toArray, List.set_cons_zero, List.set_cons_succ, i64_w, i32_w]
          rfl
        refine one_ (i := 4) (N := some 51) #[true, true, true, true, true, false] rfl rfl (by kernel_rfl) (by decide) (fun K hK => ?_)
        refine goes_ Try.func15 (by kernel_rfl) rfl #[.agg #[.string t.f0, .string t.f1, .string t.f2]] (by rfl) rfl rfl (by (try simp only [List.map_toArray, List.map_cons, List.map_nil]); first | done | rfl) ?_
        refine (Q43.gen_Ret.calls t.f0 t.f1 t.f2 2 t.f0 t.f1 t.f2 0 ⟨#[]⟩ ⟨#[]⟩ ⟨#[]⟩ ⟨#[]⟩ ⟨#[]⟩ 0 ⟨#[]⟩ X rfl).mono ?_
        rintro e w4 ⟨rfl, hb⟩
        refine ⟨_, rfl, ?_⟩
        have hk0 := blk_below z0 hb
        have HM4 := Aside0.mk (HMX.out.below hb HSX.out)
        have HB4 := Aside0.mk hb
        have y1 := (hb.cell (World.block_lt_of_cell? _ _ z1)).trans z1
        have y2 := (hb.cell (World.block_lt_of_cell? _ _ z2)).trans z2
        have y3 := (hb.cell (World.block_lt_of_cell? _ _ z3)).trans z3
        clear hb
        refine hK.out _ _ ⟨hk0, y1, y2, y3⟩ (fun hHeld => ?_)
        clear hK K
        refine norm_ (a' := ?_) ?_ ?_
        rotate_left
        · show Act.put _ (some 51) _ = _
          simp only [Act.put, List.setIfInBounds_toArray, List.set_cons_zero, List.set_cons_succ, i64_w, i32_w]
          rfl
        refine last_ (i := 5) (N := some 52) #[true, true, true, true, true, true] rfl rfl (by kernel_rfl) (by decide) (fun K hK => ?_)
        refine goes_ Try.func37 (by kernel_rfl) rfl #[.pointer (some ⟨w.heap.size + 2, 0, none⟩), .agg #[.int .i64 c.f2.f0, .string c.f2.f1.f0, .string c.f2.f1.f1, .string c.f2.f1.f2, .int .i64 c.f2.f2, .string c.f2.f3.f0, .string c.f2.f3.f1, .string c.f2.f4.f0.f0, .string c.f2.f4.f0.f1, .string c.f2.f4.f0.f2, .int .i64 c.f2.f4.f1, .string c.f2.f4.f2], .agg #[.int .i64 2, .string t.f0, .string t.f1, .string t.f2, .int .i64 0, .string ⟨#[]⟩, .string ⟨#[]⟩, .string ⟨#[]⟩, .string ⟨#[]⟩, .string ⟨#[]⟩, .int .i64 0, .string ⟨#[]⟩], .string ⟨#[]⟩] (by rfl) rfl rfl (by (try simp only [List.map_toArray, List.map_cons, List.map_nil]); first | done | rfl) ?_
        refine (maker_flows (w.heap.size + 2) (w.heap.size + 2) (.slice none 0 0) (.slice none 0 0) (.string ⟨#[]⟩) (.string ⟨#[]⟩) (.string ⟨#[]⟩) c.f4.f0 c.f1 (.int .i64 0) (.int .i64 0) (.int .i64 0) (.int .i64 0) (.int .i64 0) (.string ⟨#[]⟩) (.string ⟨#[]⟩) (.string ⟨#[]⟩) (.slice none 0 0) v (passFrom 1 c t i) c.f2 (⟨2, t, 0, z44, z46⟩ : S50) ⟨#[]⟩ w4 HM4.out HLI.out (Nat.le_trans HSX.out HB4.out.size)).mono ?_
        rintro e w6 ⟨v6, rfl, hm6, hb6, hk6⟩
        refine ⟨_, rfl, ?_⟩
        have HM6 := Aside0.mk hm6
        have HB6 := Aside0.mk (HBX.out.trans ((HB4.out.mono HSX.out).trans hb6))
        clear hm6 hb6 hk6
        refine hK.out _ _ ?_
        clear hK K
        refine norm_ (a' := ?_) ?_ ?_
        rotate_left
        · show Act.put _ (some 52) _ = _
          simp only [Act.put, List.setIfInBounds_toArray, List.set_cons_zero, List.set_cons_succ, i64_w, i32_w]
          rfl
        refine done_ (by kernel_rfl) ?_
        have s18 : w6.cell? ⟨w.heap.size + 2, 18, none⟩ = some v6 := blk_cell HM6.out.b 18
        have HFIN := Aside0.mk (Kd.R_lower HM6.out.r (show w.heap.size ≤ w.heap.size + 2 by omega))
        have HBG := Aside0.mk (HAB.out.trans (HB6.out.mono (show w.heap.size ≤ w.heap.size + 2 by omega)))
        go_wp2_with fail
        exact bodyPost_ret (results_tmp rfl _ _ _) rfl ⟨v6, rfl, by rw [passList_some HT.out, ← HNN.out]; exact HFIN.out, HBG.out⟩
set_option maxHeartbeats 16000000 in
theorem gen_passNone (c : S60) (A : Option Addr) (c0 : Nat) (t : S25) (w : World) (hk9 : c.f0 ≠ 9) (hk10 : c.f0 ≠ 10) :
    Calls Try.prog 24 #[.agg (List.toArray ((.int .i64 c.f0) :: (.int .i64 c.f1) :: (.int .i64 c.f2.f0) :: (.string c.f2.f1.f0) :: (.string c.f2.f1.f1) :: (.string c.f2.f1.f2) :: (.int .i64 c.f2.f2) :: (.string c.f2.f3.f0) :: [.string c.f2.f3.f1, .string c.f2.f4.f0.f0, .string c.f2.f4.f0.f1, .string c.f2.f4.f0.f2, .int .i64 c.f2.f4.f1, .string c.f2.f4.f2, .int .i64 c.f3.f0, .string c.f3.f1.f0, .string c.f3.f1.f1, .string c.f3.f1.f2, .int .i64 c.f3.f2, .string c.f3.f3.f0, .string c.f3.f3.f1, .string c.f3.f4.f0.f0, .string c.f3.f4.f0.f1, .string c.f3.f4.f0.f2, .int .i64 c.f3.f4.f1, .string c.f3.f4.f2, .string c.f4.f0.f0, .string c.f4.f0.f1, .string c.f4.f0.f2, .int .i64 c.f4.f1, .string c.f4.f2, .string c.f5.f0, .string c.f5.f1, .string c.f6, .string c.f7.f0, .string c.f7.f1, .string c.f7.f2, .slice A c.f8.length c0])), .agg #[.string t.f0, .string t.f1, .string t.f2]] w fun e w' => e = .returned (.slice none 0 0) ∧ Below w.heap.size w w' := by
  have hab := below_alloc (below_alloc (Below.refl w.heap.size w) (Obj.cells (List.toArray ((.int .i64 c.f0) :: (.int .i64 c.f1) :: (.int .i64 c.f2.f0) :: (.string c.f2.f1.f0) :: (.string c.f2.f1.f1) :: (.string c.f2.f1.f2) :: (.int .i64 c.f2.f2) :: (.string c.f2.f3.f0) :: [.string c.f2.f3.f1, .string c.f2.f4.f0.f0, .string c.f2.f4.f0.f1, .string c.f2.f4.f0.f2, .int .i64 c.f2.f4.f1, .string c.f2.f4.f2, .int .i64 c.f3.f0, .string c.f3.f1.f0, .string c.f3.f1.f1, .string c.f3.f1.f2, .int .i64 c.f3.f2, .string c.f3.f3.f0, .string c.f3.f3.f1, .string c.f3.f4.f0.f0, .string c.f3.f4.f0.f1, .string c.f3.f4.f0.f2, .int .i64 c.f3.f4.f1, .string c.f3.f4.f2, .string c.f4.f0.f0, .string c.f4.f0.f1, .string c.f4.f0.f2, .int .i64 c.f4.f1, .string c.f4.f2, .string c.f5.f0, .string c.f5.f1, .string c.f6, .string c.f7.f0, .string c.f7.f1, .string c.f7.f2, .slice A c.f8.length c0])) 60)) (Obj.cells #[.string t.f0, .string t.f1, .string t.f2] 25)
  have h0 := blk_alloc (World.alloc_heap_new w (Obj.cells (List.toArray ((.int .i64 c.f0) :: (.int .i64 c.f1) :: (.int .i64 c.f2.f0) :: (.string c.f2.f1.f0) :: (.string c.f2.f1.f1) :: (.string c.f2.f1.f2) :: (.int .i64 c.f2.f2) :: (.string c.f2.f3.f0) :: [.string c.f2.f3.f1, .string c.f2.f4.f0.f0, .string c.f2.f4.f0.f1, .string c.f2.f4.f0.f2, .int .i64 c.f2.f4.f1, .string c.f2.f4.f2, .int .i64 c.f3.f0, .string c.f3.f1.f0, .string c.f3.f1.f1, .string c.f3.f1.f2, .int .i64 c.f3.f2, .string c.f3.f3.f0, .string c.f3.f3.f1, .string c.f3.f4.f0.f0, .string c.f3.f4.f0.f1, .string c.f3.f4.f0.f2, .int .i64 c.f3.f4.f1, .string c.f3.f4.f2, .string c.f4.f0.f0, .string c.f4.f0.f1, .string c.f4.f0.f2, .int .i64 c.f4.f1, .string c.f4.f2, .string c.f5.f0, .string c.f5.f1, .string c.f6, .string c.f7.f0, .string c.f7.f1, .string c.f7.f2, .slice A c.f8.length c0])) 60)) (Obj.cells #[.string t.f0, .string t.f1, .string t.f2] 25)
  have e0 := blk_cell h0 0
  have k10 : (c.f0 == 10) = false := beq_eq_false_iff_ne.2 hk10
  have k9 : (c.f0 == 9) = false := beq_eq_false_iff_ne.2 hk9
  have HAB := Aside0.mk hab
  clear hk9 hk10 hab h0
  go_enter Try.func24, Try.ntmps24
  go_wp2_with fail
  exact bodyPost_ret (results_tmp rfl _ _ _) rfl ⟨rfl, HAB.out⟩
end Go.Proofs.Ytfplcohjnlbfjaa.Hand
end

section
namespace Go.Proofs.Ytfplcohjnlbfjaa.Q44
open Go.RowKit Go.Proofs.YtfplcohjnlbfjaaW.PrintWords Go.Proofs.YtfplcohjnlbfjaaW.PrintLast Go.Proofs.YtfplcohjnlbfjaaW.PrintMore Go.Proofs.Ytfplcohjnlbfjaa.Hand
attribute [local go_sem] max2_int min2_int max_two min_two max_three min_three max_four min_four   -- for this text's walks alone
set_option linter.unusedVariables false
set_option linter.unusedSimpArgs false
def errW : Option Int → Value
  | none => .nilIface
  | some c => .iface 0 (.int .i64 c)
theorem errW_none : errW none = .nilIface := rfl
theorem errW_some (c : Int) : errW (some c) = .iface 0 (.int .i64 c) := rfl
end Go.Proofs.Ytfplcohjnlbfjaa.Q44
end
