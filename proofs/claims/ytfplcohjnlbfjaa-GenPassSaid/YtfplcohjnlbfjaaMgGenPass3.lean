import Derived.Test.YtfplcohjnlbfjaaMgGenPass2
import Derived.Lib.SmallJoins
import Derived.Test.YtfplcohjnlbfjaaRows
import Derived.OpenShut
import Derived.SliceStrings
import Derived.ProofKit
import Derived.Test.YtfplcohjnlbfjaaMgGenPass0
import Derived.ChangeSame
import Derived.SizedLaws
import Derived.Test.YtfplcohjnlbfjaaMgGenPass1
section
namespace Go.Proofs.Ytfplcohjnlbfjaa.Q44
open Go.RowKit Go.Proofs.YtfplcohjnlbfjaaW.PrintWords Go.Proofs.YtfplcohjnlbfjaaW.PrintLast Go.Proofs.YtfplcohjnlbfjaaW.PrintMore Go.Proofs.Ytfplcohjnlbfjaa.Hand
attribute [local go_sem] max2_int min2_int max_two min_two max_three min_three max_four min_four   -- for this text's walks alone
set_option linter.unusedVariables false
set_option linter.unusedSimpArgs false
def secateurref25_Reg.f (a0_0 : ByteArray) (a0_1 : ByteArray) (a0_2 : ByteArray) (a1 : Int) : Option (Int × ByteArray × ByteArray × ByteArray × Int × ByteArray × ByteArray × ByteArray × ByteArray × ByteArray × Int × ByteArray) := some (1, a0_0, a0_1, a0_2, a1, (⟨#[]⟩ : ByteArray), (⟨#[]⟩ : ByteArray), (⟨#[]⟩ : ByteArray), (⟨#[]⟩ : ByteArray), (⟨#[]⟩ : ByteArray), 0, (⟨#[]⟩ : ByteArray))
set_option maxHeartbeats 8000000 in
set_option maxRecDepth 100000 in
theorem secateurref25_Reg.calls (a0_0 : ByteArray) (a0_1 : ByteArray) (a0_2 : ByteArray) (a1 : Int) (r1 : Int) (r2 : ByteArray) (r3 : ByteArray) (r4 : ByteArray) (r5 : Int) (r6 : ByteArray) (r7 : ByteArray) (r8 : ByteArray) (r9 : ByteArray) (r10 : ByteArray) (r11 : Int) (r12 : ByteArray) (w : World) (h : secateurref25_Reg.f a0_0 a0_1 a0_2 a1 = some (r1, r2, r3, r4, r5, r6, r7, r8, r9, r10, r11, r12)) :
    Calls Try.prog 14 #[.agg #[.string a0_0, .string a0_1, .string a0_2], .int .i64 a1] w fun e w' => e = .returned (.agg #[.int .i64 r1, .string r2, .string r3, .string r4, .int .i64 r5, .string r6, .string r7, .string r8, .string r9, .string r10, .int .i64 r11, .string r12]) ∧ Below w.heap.size w w' := by
  have hu25 := Try.underlying25
  have hu50 := Try.underlying50
  have HB := Aside0.mk (Below.refl w.heap.size w)
  have H : (some (1, a0_0, a0_1, a0_2, a1, (⟨#[]⟩ : ByteArray), (⟨#[]⟩ : ByteArray), (⟨#[]⟩ : ByteArray), (⟨#[]⟩ : ByteArray), (⟨#[]⟩ : ByteArray), 0, (⟨#[]⟩ : ByteArray))) = some (r1, r2, r3, r4, r5, r6, r7, r8, r9, r10, r11, r12) := h
  clear h
  simp only [Option.some.injEq, Prod.mk.injEq] at H
  obtain ⟨rfl, rfl, rfl, rfl, rfl, rfl, rfl, rfl, rfl, rfl, rfl, rfl⟩ := H
  go_enter Try.func14, Try.ntmps14
  go_wp2_with (first | ((with_reducible refine gate_dst (N := 2) rfl ?_); refine box_event ?hg (N := 2) ?hd (cs := #[.string a0_0, .string a0_1, .string a0_2]) (t := 25) ?hr ?_; (case hd => rfl); (case hg => rfl); (case hr => first | (go_simp; done) | (go_simp; rfl)); intro gb101 hg w3 hbox hb; have n0_ := Aside0.mk (below_step (by repeat (first | (with_reducible first | exact HB.out | apply below_alloc | apply pw_below_drewN | apply below_drew1) | exact HB.out)) hb); have n1_ := Aside0.mk (hbox); have n2_ := Aside0.mk ((by rw [hg]; exact (below_size (by repeat (first | (with_reducible first | exact HB.out | apply below_alloc | apply pw_below_drewN | apply below_drew1) | exact HB.out))) : w.heap.size ≤ gb101)); have n3_ := Aside0.mk ((by rw [hg]; exact (below_size (by repeat (first | (with_reducible first | exact HB.out | apply below_alloc | apply pw_below_drewN | apply below_drew1) | exact HB.out))) : w.heap.size ≤ gb101)); clear HB; have HB := n0_; have BK101 := n1_; have GW101 := n2_; have GE101 := n3_; clear n0_ n1_ n2_ n3_; clear hb hbox hg) | ((with_reducible refine gate_dst (N := 4) rfl ?_); refine box_event ?hg (N := 4) ?hd (cs := #[.int .i64 0, .string (⟨#[]⟩ : ByteArray), .string (⟨#[]⟩ : ByteArray), .string (⟨#[]⟩ : ByteArray), .int .i64 0, .string (⟨#[]⟩ : ByteArray), .string (⟨#[]⟩ : ByteArray), .string (⟨#[]⟩ : ByteArray), .string (⟨#[]⟩ : ByteArray), .string (⟨#[]⟩ : ByteArray), .int .i64 0, .string (⟨#[]⟩ : ByteArray)]) (t := 50) ?hr ?_; (case hd => rfl); (case hg => rfl); (case hr => first | (go_simp; done) | (go_simp; rfl)); intro gb102 hg w4 hbox hb; have n0_ := Aside0.mk (blk_below (g := gb101) (o := .cells #[.string a0_0, .string a0_1, .string a0_2] 25 (0, 0)) (by (with_reducible repeat (first | refine blk_drewN ?_ _ | refine blk_drew ?_ | refine blk_alloc ?_ _)); exact BK101.out) hb); have n1_ := Aside0.mk (below_step (by repeat (first | (with_reducible first | exact HB.out | apply below_alloc | apply pw_below_drewN | apply below_drew1 | refine below_set ?_ GE101.out) | exact HB.out)) hb); have n2_ := Aside0.mk (hbox); have n3_ := Aside0.mk ((by rw [hg]; exact (below_size (by repeat (first | (with_reducible first | exact HB.out | apply below_alloc | apply pw_below_drewN | apply below_drew1 | refine below_set ?_ GE101.out) | exact HB.out))) : w.heap.size ≤ gb102)); have n4_ := Aside0.mk ((by rw [hg]; exact (below_size (by repeat (first | (with_reducible first | exact HB.out | apply below_alloc | apply pw_below_drewN | apply below_drew1 | refine below_set ?_ GE101.out) | exact HB.out))) : w.heap.size ≤ gb102)); have n5_ := Aside0.mk ((by rw [hg]; exact Nat.ne_of_lt (blk_lt (g := gb101) (o := .cells #[.string a0_0, .string a0_1, .string a0_2] 25 (0, 0)) (by (with_reducible repeat (first | refine blk_drewN ?_ _ | refine blk_drew ?_ | refine blk_alloc ?_ _)); exact BK101.out)) : gb101 ≠ gb102)); have n6_ := Aside0.mk ((by rw [hg]; exact Nat.ne_of_gt (blk_lt (g := gb101) (o := .cells #[.string a0_0, .string a0_1, .string a0_2] 25 (0, 0)) (by (with_reducible repeat (first | refine blk_drewN ?_ _ | refine blk_drew ?_ | refine blk_alloc ?_ _)); exact BK101.out)) : gb102 ≠ gb101)); clear BK101; clear HB; have BK101 := n0_; have HB := n1_; have BK102 := n2_; have GW102 := n3_; have GE102 := n4_; have NB101_102 := n5_; have NB102_101 := n6_; clear n0_ n1_ n2_ n3_ n4_ n5_ n6_; clear hb hbox hg; have hnb5 := NB101_102.out; have hnc5 := NB102_101.out; have hcz6_0 : w4.cell? ⟨gb101, 0, none⟩ = some (.string a0_0) := (blk_cell BK101.out 0).trans rfl; have hcz6_1 : w4.cell? ⟨gb101, 1, none⟩ = some (.string a0_1) := (blk_cell BK101.out 1).trans rfl; have hcz6_2 : w4.cell? ⟨gb101, 2, none⟩ = some (.string a0_2) := (blk_cell BK101.out 2).trans rfl; have hfz6_0 := blk_frozen BK101.out 0; have hfz6_1 := blk_frozen BK101.out 1; have hfz6_2 := blk_frozen BK101.out 2; have hcz7_0 : w4.cell? ⟨gb102, 0, none⟩ = some (.int .i64 0) := (blk_cell BK102.out 0).trans rfl; have hcz7_1 : w4.cell? ⟨gb102, 1, none⟩ = some (.string (⟨#[]⟩ : ByteArray)) := (blk_cell BK102.out 1).trans rfl; have hcz7_2 : w4.cell? ⟨gb102, 2, none⟩ = some (.string (⟨#[]⟩ : ByteArray)) := (blk_cell BK102.out 2).trans rfl; have hcz7_3 : w4.cell? ⟨gb102, 3, none⟩ = some (.string (⟨#[]⟩ : ByteArray)) := (blk_cell BK102.out 3).trans rfl; have hcz7_4 : w4.cell? ⟨gb102, 4, none⟩ = some (.int .i64 0) := (blk_cell BK102.out 4).trans rfl; have hcz7_5 : w4.cell? ⟨gb102, 5, none⟩ = some (.string (⟨#[]⟩ : ByteArray)) := (blk_cell BK102.out 5).trans rfl; have hcz7_6 : w4.cell? ⟨gb102, 6, none⟩ = some (.string (⟨#[]⟩ : ByteArray)) := (blk_cell BK102.out 6).trans rfl; have hcz7_7 : w4.cell? ⟨gb102, 7, none⟩ = some (.string (⟨#[]⟩ : ByteArray)) := (blk_cell BK102.out 7).trans rfl; have hcz7_8 : w4.cell? ⟨gb102, 8, none⟩ = some (.string (⟨#[]⟩ : ByteArray)) := (blk_cell BK102.out 8).trans rfl; have hcz7_9 : w4.cell? ⟨gb102, 9, none⟩ = some (.string (⟨#[]⟩ : ByteArray)) := (blk_cell BK102.out 9).trans rfl; have hcz7_10 : w4.cell? ⟨gb102, 10, none⟩ = some (.int .i64 0) := (blk_cell BK102.out 10).trans rfl; have hcz7_11 : w4.cell? ⟨gb102, 11, none⟩ = some (.string (⟨#[]⟩ : ByteArray)) := (blk_cell BK102.out 11).trans rfl; have hfz7_0 := blk_frozen BK102.out 0; have hfz7_1 := blk_frozen BK102.out 1; have hfz7_2 := blk_frozen BK102.out 2; have hfz7_3 := blk_frozen BK102.out 3; have hfz7_4 := blk_frozen BK102.out 4; have hfz7_5 := blk_frozen BK102.out 5; have hfz7_6 := blk_frozen BK102.out 6; have hfz7_7 := blk_frozen BK102.out 7; have hfz7_8 := blk_frozen BK102.out 8; have hfz7_9 := blk_frozen BK102.out 9; have hfz7_10 := blk_frozen BK102.out 10; have hfz7_11 := blk_frozen BK102.out 11))
  refine bodyPost_ret (results_cell_row rfl _ _ gb102 50 #[.int .i64 1, .string a0_0, .string a0_1, .string a0_2, .int .i64 a1, .string (⟨#[]⟩ : ByteArray), .string (⟨#[]⟩ : ByteArray), .string (⟨#[]⟩ : ByteArray), .string (⟨#[]⟩ : ByteArray), .string (⟨#[]⟩ : ByteArray), .int .i64 0, .string (⟨#[]⟩ : ByteArray)] (0, 0) _ rfl (by (with_reducible repeat (first | refine blk_drewN ?_ _ | refine blk_drew ?_ | refine blk_alloc ?_ _)); refine blk_put (cs := #[.int .i64 1, .string a0_0, .string a0_1, .string a0_2, .int .i64 a1, .string (⟨#[]⟩ : ByteArray), .string (⟨#[]⟩ : ByteArray), .string (⟨#[]⟩ : ByteArray), .string (⟨#[]⟩ : ByteArray), .string (⟨#[]⟩ : ByteArray), .int .i64 0, .string (⟨#[]⟩ : ByteArray)]) ?_ 11 _ rfl; (with_reducible repeat (first | refine blk_drewN ?_ _ | refine blk_drew ?_ | refine blk_alloc ?_ _)); refine blk_put (cs := #[.int .i64 1, .string a0_0, .string a0_1, .string a0_2, .int .i64 a1, .string (⟨#[]⟩ : ByteArray), .string (⟨#[]⟩ : ByteArray), .string (⟨#[]⟩ : ByteArray), .string (⟨#[]⟩ : ByteArray), .string (⟨#[]⟩ : ByteArray), .int .i64 0, .string (⟨#[]⟩ : ByteArray)]) ?_ 10 _ rfl; (with_reducible repeat (first | refine blk_drewN ?_ _ | refine blk_drew ?_ | refine blk_alloc ?_ _)); refine blk_put (cs := #[.int .i64 1, .string a0_0, .string a0_1, .string a0_2, .int .i64 a1, .string (⟨#[]⟩ : ByteArray), .string (⟨#[]⟩ : ByteArray), .string (⟨#[]⟩ : ByteArray), .string (⟨#[]⟩ : ByteArray), .string (⟨#[]⟩ : ByteArray), .int .i64 0, .string (⟨#[]⟩ : ByteArray)]) ?_ 9 _ rfl; (with_reducible repeat (first | refine blk_drewN ?_ _ | refine blk_drew ?_ | refine blk_alloc ?_ _)); refine blk_put (cs := #[.int .i64 1, .string a0_0, .string a0_1, .string a0_2, .int .i64 a1, .string (⟨#[]⟩ : ByteArray), .string (⟨#[]⟩ : ByteArray), .string (⟨#[]⟩ : ByteArray), .string (⟨#[]⟩ : ByteArray), .string (⟨#[]⟩ : ByteArray), .int .i64 0, .string (⟨#[]⟩ : ByteArray)]) ?_ 8 _ rfl; (with_reducible repeat (first | refine blk_drewN ?_ _ | refine blk_drew ?_ | refine blk_alloc ?_ _)); refine blk_put (cs := #[.int .i64 1, .string a0_0, .string a0_1, .string a0_2, .int .i64 a1, .string (⟨#[]⟩ : ByteArray), .string (⟨#[]⟩ : ByteArray), .string (⟨#[]⟩ : ByteArray), .string (⟨#[]⟩ : ByteArray), .string (⟨#[]⟩ : ByteArray), .int .i64 0, .string (⟨#[]⟩ : ByteArray)]) ?_ 7 _ rfl; (with_reducible repeat (first | refine blk_drewN ?_ _ | refine blk_drew ?_ | refine blk_alloc ?_ _)); refine blk_put (cs := #[.int .i64 1, .string a0_0, .string a0_1, .string a0_2, .int .i64 a1, .string (⟨#[]⟩ : ByteArray), .string (⟨#[]⟩ : ByteArray), .string (⟨#[]⟩ : ByteArray), .string (⟨#[]⟩ : ByteArray), .string (⟨#[]⟩ : ByteArray), .int .i64 0, .string (⟨#[]⟩ : ByteArray)]) ?_ 6 _ rfl; (with_reducible repeat (first | refine blk_drewN ?_ _ | refine blk_drew ?_ | refine blk_alloc ?_ _)); refine blk_put (cs := #[.int .i64 1, .string a0_0, .string a0_1, .string a0_2, .int .i64 a1, .string (⟨#[]⟩ : ByteArray), .string (⟨#[]⟩ : ByteArray), .string (⟨#[]⟩ : ByteArray), .string (⟨#[]⟩ : ByteArray), .string (⟨#[]⟩ : ByteArray), .int .i64 0, .string (⟨#[]⟩ : ByteArray)]) ?_ 5 _ rfl; (with_reducible repeat (first | refine blk_drewN ?_ _ | refine blk_drew ?_ | refine blk_alloc ?_ _)); refine blk_put (cs := #[.int .i64 1, .string a0_0, .string a0_1, .string a0_2, .int .i64 0, .string (⟨#[]⟩ : ByteArray), .string (⟨#[]⟩ : ByteArray), .string (⟨#[]⟩ : ByteArray), .string (⟨#[]⟩ : ByteArray), .string (⟨#[]⟩ : ByteArray), .int .i64 0, .string (⟨#[]⟩ : ByteArray)]) ?_ 4 _ rfl; (with_reducible repeat (first | refine blk_drewN ?_ _ | refine blk_drew ?_ | refine blk_alloc ?_ _)); refine blk_put (cs := #[.int .i64 1, .string a0_0, .string a0_1, .string (⟨#[]⟩ : ByteArray), .int .i64 0, .string (⟨#[]⟩ : ByteArray), .string (⟨#[]⟩ : ByteArray), .string (⟨#[]⟩ : ByteArray), .string (⟨#[]⟩ : ByteArray), .string (⟨#[]⟩ : ByteArray), .int .i64 0, .string (⟨#[]⟩ : ByteArray)]) ?_ 3 _ rfl; (with_reducible repeat (first | refine blk_drewN ?_ _ | refine blk_drew ?_ | refine blk_alloc ?_ _)); refine blk_put (cs := #[.int .i64 1, .string a0_0, .string (⟨#[]⟩ : ByteArray), .string (⟨#[]⟩ : ByteArray), .int .i64 0, .string (⟨#[]⟩ : ByteArray), .string (⟨#[]⟩ : ByteArray), .string (⟨#[]⟩ : ByteArray), .string (⟨#[]⟩ : ByteArray), .string (⟨#[]⟩ : ByteArray), .int .i64 0, .string (⟨#[]⟩ : ByteArray)]) ?_ 2 _ rfl; (with_reducible repeat (first | refine blk_drewN ?_ _ | refine blk_drew ?_ | refine blk_alloc ?_ _)); refine blk_put (cs := #[.int .i64 1, .string (⟨#[]⟩ : ByteArray), .string (⟨#[]⟩ : ByteArray), .string (⟨#[]⟩ : ByteArray), .int .i64 0, .string (⟨#[]⟩ : ByteArray), .string (⟨#[]⟩ : ByteArray), .string (⟨#[]⟩ : ByteArray), .string (⟨#[]⟩ : ByteArray), .string (⟨#[]⟩ : ByteArray), .int .i64 0, .string (⟨#[]⟩ : ByteArray)]) ?_ 1 _ rfl; (with_reducible repeat (first | refine blk_drewN ?_ _ | refine blk_drew ?_ | refine blk_alloc ?_ _)); refine blk_put (cs := #[.int .i64 0, .string (⟨#[]⟩ : ByteArray), .string (⟨#[]⟩ : ByteArray), .string (⟨#[]⟩ : ByteArray), .int .i64 0, .string (⟨#[]⟩ : ByteArray), .string (⟨#[]⟩ : ByteArray), .string (⟨#[]⟩ : ByteArray), .string (⟨#[]⟩ : ByteArray), .string (⟨#[]⟩ : ByteArray), .int .i64 0, .string (⟨#[]⟩ : ByteArray)]) ?_ 0 _ rfl; (with_reducible repeat (first | refine blk_drewN ?_ _ | refine blk_drew ?_ | refine blk_alloc ?_ _)); exact BK102.out) Try.underlying50 rfl (by kernel_rfl)) rfl ?_
  exact ⟨by first | rfl | (simp [errW_none, errW_some] <;> rfl) | (simp [*, errW_none, errW_some] <;> rfl), by repeat (first | (with_reducible first | exact HB.out | apply below_alloc | apply pw_below_drewN | apply below_drew1 | refine below_set ?_ GE101.out | refine below_set ?_ GE102.out) | exact HB.out)⟩
def secateurref25_Ret.f (a0_0 : ByteArray) (a0_1 : ByteArray) (a0_2 : ByteArray) : Option (Int × ByteArray × ByteArray × ByteArray × Int × ByteArray × ByteArray × ByteArray × ByteArray × ByteArray × Int × ByteArray) := some (2, a0_0, a0_1, a0_2, 0, (⟨#[]⟩ : ByteArray), (⟨#[]⟩ : ByteArray), (⟨#[]⟩ : ByteArray), (⟨#[]⟩ : ByteArray), (⟨#[]⟩ : ByteArray), 0, (⟨#[]⟩ : ByteArray))
set_option maxHeartbeats 8000000 in
set_option maxRecDepth 100000 in
theorem secateurref25_Ret.calls (a0_0 : ByteArray) (a0_1 : ByteArray) (a0_2 : ByteArray) (r1 : Int) (r2 : ByteArray) (r3 : ByteArray) (r4 : ByteArray) (r5 : Int) (r6 : ByteArray) (r7 : ByteArray) (r8 : ByteArray) (r9 : ByteArray) (r10 : ByteArray) (r11 : Int) (r12 : ByteArray) (w : World) (h : secateurref25_Ret.f a0_0 a0_1 a0_2 = some (r1, r2, r3, r4, r5, r6, r7, r8, r9, r10, r11, r12)) :
    Calls Try.prog 16 #[.agg #[.string a0_0, .string a0_1, .string a0_2]] w fun e w' => e = .returned (.agg #[.int .i64 r1, .string r2, .string r3, .string r4, .int .i64 r5, .string r6, .string r7, .string r8, .string r9, .string r10, .int .i64 r11, .string r12]) ∧ Below w.heap.size w w' := by
  have hu25 := Try.underlying25
  have hu50 := Try.underlying50
  have HB := Aside0.mk (Below.refl w.heap.size w)
  have H : (some (2, a0_0, a0_1, a0_2, 0, (⟨#[]⟩ : ByteArray), (⟨#[]⟩ : ByteArray), (⟨#[]⟩ : ByteArray), (⟨#[]⟩ : ByteArray), (⟨#[]⟩ : ByteArray), 0, (⟨#[]⟩ : ByteArray))) = some (r1, r2, r3, r4, r5, r6, r7, r8, r9, r10, r11, r12) := h
  clear h
  simp only [Option.some.injEq, Prod.mk.injEq] at H
  obtain ⟨rfl, rfl, rfl, rfl, rfl, rfl, rfl, rfl, rfl, rfl, rfl, rfl⟩ := H
  go_enter Try.func16, Try.ntmps16
  go_wp2_with (first | ((with_reducible refine gate_dst (N := 1) rfl ?_); refine box_event ?hg (N := 1) ?hd (cs := #[.string a0_0, .string a0_1, .string a0_2]) (t := 25) ?hr ?_; (case hd => rfl); (case hg => rfl); (case hr => first | (go_simp; done) | (go_simp; rfl)); intro gb103 hg w2 hbox hb; have n0_ := Aside0.mk (below_step (by repeat (first | (with_reducible first | exact HB.out | apply below_alloc | apply pw_below_drewN | apply below_drew1) | exact HB.out)) hb); have n1_ := Aside0.mk (hbox); have n2_ := Aside0.mk ((by rw [hg]; exact (below_size (by repeat (first | (with_reducible first | exact HB.out | apply below_alloc | apply pw_below_drewN | apply below_drew1) | exact HB.out))) : w.heap.size ≤ gb103)); have n3_ := Aside0.mk ((by rw [hg]; exact (below_size (by repeat (first | (with_reducible first | exact HB.out | apply below_alloc | apply pw_below_drewN | apply below_drew1) | exact HB.out))) : w.heap.size ≤ gb103)); clear HB; have HB := n0_; have BK103 := n1_; have GW103 := n2_; have GE103 := n3_; clear n0_ n1_ n2_ n3_; clear hb hbox hg) | ((with_reducible refine gate_dst (N := 2) rfl ?_); refine box_event ?hg (N := 2) ?hd (cs := #[.int .i64 0, .string (⟨#[]⟩ : ByteArray), .string (⟨#[]⟩ : ByteArray), .string (⟨#[]⟩ : ByteArray), .int .i64 0, .string (⟨#[]⟩ : ByteArray), .string (⟨#[]⟩ : ByteArray), .string (⟨#[]⟩ : ByteArray), .string (⟨#[]⟩ : ByteArray), .string (⟨#[]⟩ : ByteArray), .int .i64 0, .string (⟨#[]⟩ : ByteArray)]) (t := 50) ?hr ?_; (case hd => rfl); (case hg => rfl); (case hr => first | (go_simp; done) | (go_simp; rfl)); intro gb104 hg w3 hbox hb; have n0_ := Aside0.mk (blk_below (g := gb103) (o := .cells #[.string a0_0, .string a0_1, .string a0_2] 25 (0, 0)) (by (with_reducible repeat (first | refine blk_drewN ?_ _ | refine blk_drew ?_ | refine blk_alloc ?_ _)); exact BK103.out) hb); have n1_ := Aside0.mk (below_step (by repeat (first | (with_reducible first | exact HB.out | apply below_alloc | apply pw_below_drewN | apply below_drew1 | refine below_set ?_ GE103.out) | exact HB.out)) hb); have n2_ := Aside0.mk (hbox); have n3_ := Aside0.mk ((by rw [hg]; exact (below_size (by repeat (first | (with_reducible first | exact HB.out | apply below_alloc | apply pw_below_drewN | apply below_drew1 | refine below_set ?_ GE103.out) | exact HB.out))) : w.heap.size ≤ gb104)); have n4_ := Aside0.mk ((by rw [hg]; exact (below_size (by repeat (first | (with_reducible first | exact HB.out | apply below_alloc | apply pw_below_drewN | apply below_drew1 | refine below_set ?_ GE103.out) | exact HB.out))) : w.heap.size ≤ gb104)); have n5_ := Aside0.mk ((by rw [hg]; exact Nat.ne_of_lt (blk_lt (g := gb103) (o := .cells #[.string a0_0, .string a0_1, .string a0_2] 25 (0, 0)) (by (with_reducible repeat (first | refine blk_drewN ?_ _ | refine blk_drew ?_ | refine blk_alloc ?_ _)); exact BK103.out)) : gb103 ≠ gb104)); have n6_ := Aside0.mk ((by rw [hg]; exact Nat.ne_of_gt (blk_lt (g := gb103) (o := .cells #[.string a0_0, .string a0_1, .string a0_2] 25 (0, 0)) (by (with_reducible repeat (first | refine blk_drewN ?_ _ | refine blk_drew ?_ | refine blk_alloc ?_ _)); exact BK103.out)) : gb104 ≠ gb103)); clear BK103; clear HB; have BK103 := n0_; have HB := n1_; have BK104 := n2_; have GW104 := n3_; have GE104 := n4_; have NB103_104 := n5_; have NB104_103 := n6_; clear n0_ n1_ n2_ n3_ n4_ n5_ n6_; clear hb hbox hg; have hnb4 := NB103_104.out; have hnc4 := NB104_103.out; have hcz5_0 : w3.cell? ⟨gb103, 0, none⟩ = some (.string a0_0) := (blk_cell BK103.out 0).trans rfl; have hcz5_1 : w3.cell? ⟨gb103, 1, none⟩ = some (.string a0_1) := (blk_cell BK103.out 1).trans rfl; have hcz5_2 : w3.cell? ⟨gb103, 2, none⟩ = some (.string a0_2) := (blk_cell BK103.out 2).trans rfl; have hfz5_0 := blk_frozen BK103.out 0; have hfz5_1 := blk_frozen BK103.out 1; have hfz5_2 := blk_frozen BK103.out 2; have hcz6_0 : w3.cell? ⟨gb104, 0, none⟩ = some (.int .i64 0) := (blk_cell BK104.out 0).trans rfl; have hcz6_1 : w3.cell? ⟨gb104, 1, none⟩ = some (.string (⟨#[]⟩ : ByteArray)) := (blk_cell BK104.out 1).trans rfl; have hcz6_2 : w3.cell? ⟨gb104, 2, none⟩ = some (.string (⟨#[]⟩ : ByteArray)) := (blk_cell BK104.out 2).trans rfl; have hcz6_3 : w3.cell? ⟨gb104, 3, none⟩ = some (.string (⟨#[]⟩ : ByteArray)) := (blk_cell BK104.out 3).trans rfl; have hcz6_4 : w3.cell? ⟨gb104, 4, none⟩ = some (.int .i64 0) := (blk_cell BK104.out 4).trans rfl; have hcz6_5 : w3.cell? ⟨gb104, 5, none⟩ = some (.string (⟨#[]⟩ : ByteArray)) := (blk_cell BK104.out 5).trans rfl; have hcz6_6 : w3.cell? ⟨gb104, 6, none⟩ = some (.string (⟨#[]⟩ : ByteArray)) := (blk_cell BK104.out 6).trans rfl; have hcz6_7 : w3.cell? ⟨gb104, 7, none⟩ = some (.string (⟨#[]⟩ : ByteArray)) := (blk_cell BK104.out 7).trans rfl; have hcz6_8 : w3.cell? ⟨gb104, 8, none⟩ = some (.string (⟨#[]⟩ : ByteArray)) := (blk_cell BK104.out 8).trans rfl; have hcz6_9 : w3.cell? ⟨gb104, 9, none⟩ = some (.string (⟨#[]⟩ : ByteArray)) := (blk_cell BK104.out 9).trans rfl; have hcz6_10 : w3.cell? ⟨gb104, 10, none⟩ = some (.int .i64 0) := (blk_cell BK104.out 10).trans rfl; have hcz6_11 : w3.cell? ⟨gb104, 11, none⟩ = some (.string (⟨#[]⟩ : ByteArray)) := (blk_cell BK104.out 11).trans rfl; have hfz6_0 := blk_frozen BK104.out 0; have hfz6_1 := blk_frozen BK104.out 1; have hfz6_2 := blk_frozen BK104.out 2; have hfz6_3 := blk_frozen BK104.out 3; have hfz6_4 := blk_frozen BK104.out 4; have hfz6_5 := blk_frozen BK104.out 5; have hfz6_6 := blk_frozen BK104.out 6; have hfz6_7 := blk_frozen BK104.out 7; have hfz6_8 := blk_frozen BK104.out 8; have hfz6_9 := blk_frozen BK104.out 9; have hfz6_10 := blk_frozen BK104.out 10; have hfz6_11 := blk_frozen BK104.out 11))
  refine bodyPost_ret (results_cell_row rfl _ _ gb104 50 #[.int .i64 2, .string a0_0, .string a0_1, .string a0_2, .int .i64 0, .string (⟨#[]⟩ : ByteArray), .string (⟨#[]⟩ : ByteArray), .string (⟨#[]⟩ : ByteArray), .string (⟨#[]⟩ : ByteArray), .string (⟨#[]⟩ : ByteArray), .int .i64 0, .string (⟨#[]⟩ : ByteArray)] (0, 0) _ rfl (by (with_reducible repeat (first | refine blk_drewN ?_ _ | refine blk_drew ?_ | refine blk_alloc ?_ _)); refine blk_put (cs := #[.int .i64 2, .string a0_0, .string a0_1, .string a0_2, .int .i64 0, .string (⟨#[]⟩ : ByteArray), .string (⟨#[]⟩ : ByteArray), .string (⟨#[]⟩ : ByteArray), .string (⟨#[]⟩ : ByteArray), .string (⟨#[]⟩ : ByteArray), .int .i64 0, .string (⟨#[]⟩ : ByteArray)]) ?_ 11 _ rfl; (with_reducible repeat (first | refine blk_drewN ?_ _ | refine blk_drew ?_ | refine blk_alloc ?_ _)); refine blk_put (cs := #[.int .i64 2, .string a0_0, .string a0_1, .string a0_2, .int .i64 0, .string (⟨#[]⟩ : ByteArray), .string (⟨#[]⟩ : ByteArray), .string (⟨#[]⟩ : ByteArray), .string (⟨#[]⟩ : ByteArray), .string (⟨#[]⟩ : ByteArray), .int .i64 0, .string (⟨#[]⟩ : ByteArray)]) ?_ 10 _ rfl; (with_reducible repeat (first | refine blk_drewN ?_ _ | refine blk_drew ?_ | refine blk_alloc ?_ _)); refine blk_put (cs := #[.int .i64 2, .string a0_0, .string a0_1, .string a0_2, .int .i64 0, .string (⟨#[]⟩ : ByteArray), .string (⟨#[]⟩ : ByteArray), .string (⟨#[]⟩ : ByteArray), .string (⟨#[]⟩ : ByteArray), .string (⟨#[]⟩ : ByteArray), .int .i64 0, .string (⟨#[]⟩ : ByteArray)]) ?_ 9 _ rfl; (with_reducible repeat (first | refine blk_drewN ?_ _ | refine blk_drew ?_ | refine blk_alloc ?_ _)); refine blk_put (cs := #[.int .i64 2, .string a0_0, .string a0_1, .string a0_2, .int .i64 0, .string (⟨#[]⟩ : ByteArray), .string (⟨#[]⟩ : ByteArray), .string (⟨#[]⟩ : ByteArray), .string (⟨#[]⟩ : ByteArray), .string (⟨#[]⟩ : ByteArray), .int .i64 0, .string (⟨#[]⟩ : ByteArray)]) ?_ 8 _ rfl; (with_reducible repeat (first | refine blk_drewN ?_ _ | refine blk_drew ?_ | refine blk_alloc ?_ _)); refine blk_put (cs := #[.int .i64 2, .string a0_0, .string a0_1, .string a0_2, .int .i64 0, .string (⟨#[]⟩ : ByteArray), .string (⟨#[]⟩ : ByteArray), .string (⟨#[]⟩ : ByteArray), .string (⟨#[]⟩ : ByteArray), .string (⟨#[]⟩ : ByteArray), .int .i64 0, .string (⟨#[]⟩ : ByteArray)]) ?_ 7 _ rfl; (with_reducible repeat (first | refine blk_drewN ?_ _ | refine blk_drew ?_ | refine blk_alloc ?_ _)); refine blk_put (cs := #[.int .i64 2, .string a0_0, .string a0_1, .string a0_2, .int .i64 0, .string (⟨#[]⟩ : ByteArray), .string (⟨#[]⟩ : ByteArray), .string (⟨#[]⟩ : ByteArray), .string (⟨#[]⟩ : ByteArray), .string (⟨#[]⟩ : ByteArray), .int .i64 0, .string (⟨#[]⟩ : ByteArray)]) ?_ 6 _ rfl; (with_reducible repeat (first | refine blk_drewN ?_ _ | refine blk_drew ?_ | refine blk_alloc ?_ _)); refine blk_put (cs := #[.int .i64 2, .string a0_0, .string a0_1, .string a0_2, .int .i64 0, .string (⟨#[]⟩ : ByteArray), .string (⟨#[]⟩ : ByteArray), .string (⟨#[]⟩ : ByteArray), .string (⟨#[]⟩ : ByteArray), .string (⟨#[]⟩ : ByteArray), .int .i64 0, .string (⟨#[]⟩ : ByteArray)]) ?_ 5 _ rfl; (with_reducible repeat (first | refine blk_drewN ?_ _ | refine blk_drew ?_ | refine blk_alloc ?_ _)); refine blk_put (cs := #[.int .i64 2, .string a0_0, .string a0_1, .string a0_2, .int .i64 0, .string (⟨#[]⟩ : ByteArray), .string (⟨#[]⟩ : ByteArray), .string (⟨#[]⟩ : ByteArray), .string (⟨#[]⟩ : ByteArray), .string (⟨#[]⟩ : ByteArray), .int .i64 0, .string (⟨#[]⟩ : ByteArray)]) ?_ 4 _ rfl; (with_reducible repeat (first | refine blk_drewN ?_ _ | refine blk_drew ?_ | refine blk_alloc ?_ _)); refine blk_put (cs := #[.int .i64 2, .string a0_0, .string a0_1, .string (⟨#[]⟩ : ByteArray), .int .i64 0, .string (⟨#[]⟩ : ByteArray), .string (⟨#[]⟩ : ByteArray), .string (⟨#[]⟩ : ByteArray), .string (⟨#[]⟩ : ByteArray), .string (⟨#[]⟩ : ByteArray), .int .i64 0, .string (⟨#[]⟩ : ByteArray)]) ?_ 3 _ rfl; (with_reducible repeat (first | refine blk_drewN ?_ _ | refine blk_drew ?_ | refine blk_alloc ?_ _)); refine blk_put (cs := #[.int .i64 2, .string a0_0, .string (⟨#[]⟩ : ByteArray), .string (⟨#[]⟩ : ByteArray), .int .i64 0, .string (⟨#[]⟩ : ByteArray), .string (⟨#[]⟩ : ByteArray), .string (⟨#[]⟩ : ByteArray), .string (⟨#[]⟩ : ByteArray), .string (⟨#[]⟩ : ByteArray), .int .i64 0, .string (⟨#[]⟩ : ByteArray)]) ?_ 2 _ rfl; (with_reducible repeat (first | refine blk_drewN ?_ _ | refine blk_drew ?_ | refine blk_alloc ?_ _)); refine blk_put (cs := #[.int .i64 2, .string (⟨#[]⟩ : ByteArray), .string (⟨#[]⟩ : ByteArray), .string (⟨#[]⟩ : ByteArray), .int .i64 0, .string (⟨#[]⟩ : ByteArray), .string (⟨#[]⟩ : ByteArray), .string (⟨#[]⟩ : ByteArray), .string (⟨#[]⟩ : ByteArray), .string (⟨#[]⟩ : ByteArray), .int .i64 0, .string (⟨#[]⟩ : ByteArray)]) ?_ 1 _ rfl; (with_reducible repeat (first | refine blk_drewN ?_ _ | refine blk_drew ?_ | refine blk_alloc ?_ _)); refine blk_put (cs := #[.int .i64 0, .string (⟨#[]⟩ : ByteArray), .string (⟨#[]⟩ : ByteArray), .string (⟨#[]⟩ : ByteArray), .int .i64 0, .string (⟨#[]⟩ : ByteArray), .string (⟨#[]⟩ : ByteArray), .string (⟨#[]⟩ : ByteArray), .string (⟨#[]⟩ : ByteArray), .string (⟨#[]⟩ : ByteArray), .int .i64 0, .string (⟨#[]⟩ : ByteArray)]) ?_ 0 _ rfl; (with_reducible repeat (first | refine blk_drewN ?_ _ | refine blk_drew ?_ | refine blk_alloc ?_ _)); exact BK104.out) Try.underlying50 rfl (by kernel_rfl)) rfl ?_
  exact ⟨by first | rfl | (simp [errW_none, errW_some] <;> rfl) | (simp [*, errW_none, errW_some] <;> rfl), by repeat (first | (with_reducible first | exact HB.out | apply below_alloc | apply pw_below_drewN | apply below_drew1 | refine below_set ?_ GE103.out | refine below_set ?_ GE104.out) | exact HB.out)⟩
end Go.Proofs.Ytfplcohjnlbfjaa.Q44
end

section
namespace Go.Proofs.Ytfplcohjnlbfjaa.Q44
open Go.RowKit Go.Proofs.YtfplcohjnlbfjaaW.PrintWords Go.Proofs.YtfplcohjnlbfjaaW.PrintLast Go.Proofs.YtfplcohjnlbfjaaW.PrintMore
attribute [local go_sem] max2_int min2_int max_two min_two max_three min_three max_four min_four   -- for this text's walks alone
set_option linter.unusedVariables false
set_option linter.unusedSimpArgs false
end Go.Proofs.Ytfplcohjnlbfjaa.Q44
end

section
namespace Go.Proofs.Ytfplcohjnlbfjaa.Hand
open Go.RowKit Go.Proofs.YtfplcohjnlbfjaaW.PrintWords Go.Proofs.YtfplcohjnlbfjaaW.PrintLast Go.Proofs.YtfplcohjnlbfjaaW.PrintMore
set_option linter.unusedVariables false
set_option linter.unusedSimpArgs false
set_option maxRecDepth 20000
theorem ref_flows_reg (c : S60) (t : S25) (i x : Int) (w : World) :
    Calls Try.prog 39 #[.agg #[.string c.f4.f0.f0, .string c.f4.f0.f1, .string c.f4.f0.f2], .int .i64 c.f1, .agg #[.int .i64 1, .string t.f0, .string t.f1, .string t.f2, .int .i64 i, .string ⟨#[]⟩, .string ⟨#[]⟩, .string ⟨#[]⟩, .string ⟨#[]⟩, .string ⟨#[]⟩, .int .i64 0, .string ⟨#[]⟩], .agg #[.int .i64 1, .string c.f4.f0.f0, .string c.f4.f0.f1, .string c.f4.f0.f2, .int .i64 x, .string ⟨#[]⟩, .string ⟨#[]⟩, .string ⟨#[]⟩, .string ⟨#[]⟩, .string ⟨#[]⟩, .int .i64 0, .string ⟨#[]⟩], .string ⟨#[]⟩] w fun e w' => e = .returned (.agg (List.toArray ((.int .i64 2) :: (.int .i64 c.f1) :: (.int .i64 1) :: (.string t.f0) :: (.string t.f1) :: (.string t.f2) :: (.int .i64 i) :: (.string ⟨#[]⟩) :: [.string ⟨#[]⟩, .string ⟨#[]⟩, .string ⟨#[]⟩, .string ⟨#[]⟩, .int .i64 0, .string ⟨#[]⟩, .int .i64 1, .string c.f4.f0.f0, .string c.f4.f0.f1, .string c.f4.f0.f2, .int .i64 x, .string ⟨#[]⟩, .string ⟨#[]⟩, .string ⟨#[]⟩, .string ⟨#[]⟩, .string ⟨#[]⟩, .int .i64 0, .string ⟨#[]⟩, .string c.f4.f0.f0, .string c.f4.f0.f1, .string c.f4.f0.f2, .int .i64 0, .string ⟨#[]⟩, .string ⟨#[]⟩, .string ⟨#[]⟩, .string ⟨#[]⟩, .string ⟨#[]⟩, .string ⟨#[]⟩, .string ⟨#[]⟩, .slice none 0 0]))) ∧ Below w.heap.size w w' :=
  ref_flows c.f4.f0 c.f1 (⟨1, t, i, z44, z46⟩ : S50) (⟨1, c.f4.f0, x, z44, z46⟩ : S50) ⟨#[]⟩ w
theorem ref_flows_ret (c : S60) (t : S25) (w : World) :
    Calls Try.prog 39 #[.agg #[.string c.f4.f0.f0, .string c.f4.f0.f1, .string c.f4.f0.f2], .int .i64 c.f1, .agg #[.int .i64 c.f2.f0, .string c.f2.f1.f0, .string c.f2.f1.f1, .string c.f2.f1.f2, .int .i64 c.f2.f2, .string c.f2.f3.f0, .string c.f2.f3.f1, .string c.f2.f4.f0.f0, .string c.f2.f4.f0.f1, .string c.f2.f4.f0.f2, .int .i64 c.f2.f4.f1, .string c.f2.f4.f2], .agg #[.int .i64 2, .string t.f0, .string t.f1, .string t.f2, .int .i64 0, .string ⟨#[]⟩, .string ⟨#[]⟩, .string ⟨#[]⟩, .string ⟨#[]⟩, .string ⟨#[]⟩, .int .i64 0, .string ⟨#[]⟩], .string ⟨#[]⟩] w fun e w' => e = .returned (.agg (List.toArray ((.int .i64 2) :: (.int .i64 c.f1) :: (.int .i64 c.f2.f0) :: (.string c.f2.f1.f0) :: (.string c.f2.f1.f1) :: (.string c.f2.f1.f2) :: (.int .i64 c.f2.f2) :: (.string c.f2.f3.f0) :: [.string c.f2.f3.f1, .string c.f2.f4.f0.f0, .string c.f2.f4.f0.f1, .string c.f2.f4.f0.f2, .int .i64 c.f2.f4.f1, .string c.f2.f4.f2, .int .i64 2, .string t.f0, .string t.f1, .string t.f2, .int .i64 0, .string ⟨#[]⟩, .string ⟨#[]⟩, .string ⟨#[]⟩, .string ⟨#[]⟩, .string ⟨#[]⟩, .int .i64 0, .string ⟨#[]⟩, .string c.f4.f0.f0, .string c.f4.f0.f1, .string c.f4.f0.f2, .int .i64 0, .string ⟨#[]⟩, .string ⟨#[]⟩, .string ⟨#[]⟩, .string ⟨#[]⟩, .string ⟨#[]⟩, .string ⟨#[]⟩, .string ⟨#[]⟩, .slice none 0 0]))) ∧ Below w.heap.size w w' :=
  ref_flows c.f4.f0 c.f1 c.f2 (⟨2, t, 0, z44, z46⟩ : S50) ⟨#[]⟩ w
set_option maxHeartbeats 64000000 in
theorem ref_pass9 (c : S60) (A : Option Addr) (c0 : Nat) (t : S25) (w : World) (hk : c.f0 = 9) (hC : Kd.C (Kd.int .i64) w A c.f8.length c.f8) (hc : c.f8.length ≤ c0) (hlen : c.f8.length + 2 ≤ 1048576) :
    Calls Try.prog 25 #[.agg (List.toArray ((.int .i64 c.f0) :: (.int .i64 c.f1) :: (.int .i64 c.f2.f0) :: (.string c.f2.f1.f0) :: (.string c.f2.f1.f1) :: (.string c.f2.f1.f2) :: (.int .i64 c.f2.f2) :: (.string c.f2.f3.f0) :: [.string c.f2.f3.f1, .string c.f2.f4.f0.f0, .string c.f2.f4.f0.f1, .string c.f2.f4.f0.f2, .int .i64 c.f2.f4.f1, .string c.f2.f4.f2, .int .i64 c.f3.f0, .string c.f3.f1.f0, .string c.f3.f1.f1, .string c.f3.f1.f2, .int .i64 c.f3.f2, .string c.f3.f3.f0, .string c.f3.f3.f1, .string c.f3.f4.f0.f0, .string c.f3.f4.f0.f1, .string c.f3.f4.f0.f2, .int .i64 c.f3.f4.f1, .string c.f3.f4.f2, .string c.f4.f0.f0, .string c.f4.f0.f1, .string c.f4.f0.f2, .int .i64 c.f4.f1, .string c.f4.f2, .string c.f5.f0, .string c.f5.f1, .string c.f6, .string c.f7.f0, .string c.f7.f1, .string c.f7.f2, .slice A c.f8.length c0])), .agg #[.string t.f0, .string t.f1, .string t.f2]] w fun e w' => ∃ v', e = .returned v' ∧ Kd.R k60 60 w' w.heap.size (fun _ => True) v' (passList 0 c t) ∧ Below w.heap.size w w' := by
  have hab := below_alloc (below_alloc (Below.refl w.heap.size w) (Obj.cells (List.toArray ((.int .i64 c.f0) :: (.int .i64 c.f1) :: (.int .i64 c.f2.f0) :: (.string c.f2.f1.f0) :: (.string c.f2.f1.f1) :: (.string c.f2.f1.f2) :: (.int .i64 c.f2.f2) :: (.string c.f2.f3.f0) :: [.string c.f2.f3.f1, .string c.f2.f4.f0.f0, .string c.f2.f4.f0.f1, .string c.f2.f4.f0.f2, .int .i64 c.f2.f4.f1, .string c.f2.f4.f2, .int .i64 c.f3.f0, .string c.f3.f1.f0, .string c.f3.f1.f1, .string c.f3.f1.f2, .int .i64 c.f3.f2, .string c.f3.f3.f0, .string c.f3.f3.f1, .string c.f3.f4.f0.f0, .string c.f3.f4.f0.f1, .string c.f3.f4.f0.f2, .int .i64 c.f3.f4.f1, .string c.f3.f4.f2, .string c.f4.f0.f0, .string c.f4.f0.f1, .string c.f4.f0.f2, .int .i64 c.f4.f1, .string c.f4.f2, .string c.f5.f0, .string c.f5.f1, .string c.f6, .string c.f7.f0, .string c.f7.f1, .string c.f7.f2, .slice A c.f8.length c0])) 60)) (Obj.cells #[.string t.f0, .string t.f1, .string t.f2] 25)
  have h0 := blk_alloc (World.alloc_heap_new w (Obj.cells (List.toArray ((.int .i64 c.f0) :: (.int .i64 c.f1) :: (.int .i64 c.f2.f0) :: (.string c.f2.f1.f0) :: (.string c.f2.f1.f1) :: (.string c.f2.f1.f2) :: (.int .i64 c.f2.f2) :: (.string c.f2.f3.f0) :: [.string c.f2.f3.f1, .string c.f2.f4.f0.f0, .string c.f2.f4.f0.f1, .string c.f2.f4.f0.f2, .int .i64 c.f2.f4.f1, .string c.f2.f4.f2, .int .i64 c.f3.f0, .string c.f3.f1.f0, .string c.f3.f1.f1, .string c.f3.f1.f2, .int .i64 c.f3.f2, .string c.f3.f3.f0, .string c.f3.f3.f1, .string c.f3.f4.f0.f0, .string c.f3.f4.f0.f1, .string c.f3.f4.f0.f2, .int .i64 c.f3.f4.f1, .string c.f3.f4.f2, .string c.f4.f0.f0, .string c.f4.f0.f1, .string c.f4.f0.f2, .int .i64 c.f4.f1, .string c.f4.f2, .string c.f5.f0, .string c.f5.f1, .string c.f6, .string c.f7.f0, .string c.f7.f1, .string c.f7.f2, .slice A c.f8.length c0])) 60)) (Obj.cells #[.string t.f0, .string t.f1, .string t.f2] 25)
  have h1 := World.alloc_heap_new (w.alloc (Obj.cells (List.toArray ((.int .i64 c.f0) :: (.int .i64 c.f1) :: (.int .i64 c.f2.f0) :: (.string c.f2.f1.f0) :: (.string c.f2.f1.f1) :: (.string c.f2.f1.f2) :: (.int .i64 c.f2.f2) :: (.string c.f2.f3.f0) :: [.string c.f2.f3.f1, .string c.f2.f4.f0.f0, .string c.f2.f4.f0.f1, .string c.f2.f4.f0.f2, .int .i64 c.f2.f4.f1, .string c.f2.f4.f2, .int .i64 c.f3.f0, .string c.f3.f1.f0, .string c.f3.f1.f1, .string c.f3.f1.f2, .int .i64 c.f3.f2, .string c.f3.f3.f0, .string c.f3.f3.f1, .string c.f3.f4.f0.f0, .string c.f3.f4.f0.f1, .string c.f3.f4.f0.f2, .int .i64 c.f3.f4.f1, .string c.f3.f4.f2, .string c.f4.f0.f0, .string c.f4.f0.f1, .string c.f4.f0.f2, .int .i64 c.f4.f1, .string c.f4.f2, .string c.f5.f0, .string c.f5.f1, .string c.f6, .string c.f7.f0, .string c.f7.f1, .string c.f7.f2, .slice A c.f8.length c0])) 60)) (Obj.cells #[.string t.f0, .string t.f1, .string t.f2] 25)
  rw [World.size_alloc] at h1
  have k10 : (c.f0 != 10) = true := by rw [hk]; rfl
  have k9 : (c.f0 != 9) = false := by rw [hk]; rfl
  have l9 : (c.f0 == 9) = true := by rw [hk]; rfl
  have HCA := Aside0.mk hC
  have HLN := Aside0.mk hlen
  obtain ⟨n, hn⟩ : ∃ n, n = c.f8.length := ⟨_, rfl⟩
  have e0 := blk_cell h0 0
  have H0 := Aside0.mk h0
  have H1 := Aside0.mk h1
  have HAB := Aside0.mk hab
  have HSZ : Aside0 (((w.alloc (Obj.cells (List.toArray ((.int .i64 c.f0) :: (.int .i64 c.f1) :: (.int .i64 c.f2.f0) :: (.string c.f2.f1.f0) :: (.string c.f2.f1.f1) :: (.string c.f2.f1.f2) :: (.int .i64 c.f2.f2) :: (.string c.f2.f3.f0) :: [.string c.f2.f3.f1, .string c.f2.f4.f0.f0, .string c.f2.f4.f0.f1, .string c.f2.f4.f0.f2, .int .i64 c.f2.f4.f1, .string c.f2.f4.f2, .int .i64 c.f3.f0, .string c.f3.f1.f0, .string c.f3.f1.f1, .string c.f3.f1.f2, .int .i64 c.f3.f2, .string c.f3.f3.f0, .string c.f3.f3.f1, .string c.f3.f4.f0.f0, .string c.f3.f4.f0.f1, .string c.f3.f4.f0.f2, .int .i64 c.f3.f4.f1, .string c.f3.f4.f2, .string c.f4.f0.f0, .string c.f4.f0.f1, .string c.f4.f0.f2, .int .i64 c.f4.f1, .string c.f4.f2, .string c.f5.f0, .string c.f5.f1, .string c.f6, .string c.f7.f0, .string c.f7.f1, .string c.f7.f2, .slice A c.f8.length c0])) 60)).alloc (Obj.cells #[.string t.f0, .string t.f1, .string t.f2] 25)).heap.size = w.heap.size + 2) := ⟨by rw [World.size_alloc, World.size_alloc]⟩
  clear hk hC h0 h1 hlen hab
  go_enter Try.func25, Try.ntmps25
  go_wp2_with fail
  clear e0
  generalize ((w.alloc (Obj.cells (List.toArray ((.int .i64 c.f0) :: (.int .i64 c.f1) :: (.int .i64 c.f2.f0) :: (.string c.f2.f1.f0) :: (.string c.f2.f1.f1) :: (.string c.f2.f1.f2) :: (.int .i64 c.f2.f2) :: (.string c.f2.f3.f0) :: [.string c.f2.f3.f1, .string c.f2.f4.f0.f0, .string c.f2.f4.f0.f1, .string c.f2.f4.f0.f2, .int .i64 c.f2.f4.f1, .string c.f2.f4.f2, .int .i64 c.f3.f0, .string c.f3.f1.f0, .string c.f3.f1.f1, .string c.f3.f1.f2, .int .i64 c.f3.f2, .string c.f3.f3.f0, .string c.f3.f3.f1, .string c.f3.f4.f0.f0, .string c.f3.f4.f0.f1, .string c.f3.f4.f0.f2, .int .i64 c.f3.f4.f1, .string c.f3.f4.f2, .string c.f4.f0.f0, .string c.f4.f0.f1, .string c.f4.f0.f2, .int .i64 c.f4.f1, .string c.f4.f2, .string c.f5.f0, .string c.f5.f1, .string c.f6, .string c.f7.f0, .string c.f7.f1, .string c.f7.f2, .slice A c.f8.length c0])) 60)).alloc (Obj.cells #[.string t.f0, .string t.f1, .string t.f2] 25)) = W2 at H0 H1 HAB HSZ ⊢
  generalize Value.agg (List.toArray ((.int .i64 c.f0) :: (.int .i64 c.f1) :: (.int .i64 c.f2.f0) :: (.string c.f2.f1.f0) :: (.string c.f2.f1.f1) :: (.string c.f2.f1.f2) :: (.int .i64 c.f2.f2) :: (.string c.f2.f3.f0) :: [.string c.f2.f3.f1, .string c.f2.f4.f0.f0, .string c.f2.f4.f0.f1, .string c.f2.f4.f0.f2, .int .i64 c.f2.f4.f1, .string c.f2.f4.f2, .int .i64 c.f3.f0, .string c.f3.f1.f0, .string c.f3.f1.f1, .string c.f3.f1.f2, .int .i64 c.f3.f2, .string c.f3.f3.f0, .string c.f3.f3.f1, .string c.f3.f4.f0.f0, .string c.f3.f4.f0.f1, .string c.f3.f4.f0.f2, .int .i64 c.f3.f4.f1, .string c.f3.f4.f2, .string c.f4.f0.f0, .string c.f4.f0.f1, .string c.f4.f0.f2, .int .i64 c.f4.f1, .string c.f4.f2, .string c.f5.f0, .string c.f5.f1, .string c.f6, .string c.f7.f0, .string c.f7.f1, .string c.f7.f2, .slice A c.f8.length c0])) = cv
  have HNN := Aside0.mk hn
  clear hn
  go_loopg [5, 6] n (fun kq v5 v6 wr => ∃ i : Nat, v6 = .int .i64 (i : Int) ∧ i + kq = n ∧ Aside0 (Kd.R k60 60 wr (w.heap.size + 2) (fun _ => True) v5 (passFrom 0 c t i)) ∧ Aside0 (Below (w.heap.size + 2) W2 wr))
  case atStart => exact ⟨0, rfl, by omega, ⟨Kd.R_nil _ _ _ _ _⟩, ⟨Below.refl _ _⟩⟩
  case round =>
    obtain ⟨i, rfl, hi, HM, HBL⟩ := hrel
    have b0 := (HBL.out.block w.heap.size (by omega)).trans H0.out
    have b1 := (HBL.out.block (w.heap.size + 1) (by omega)).trans H1.out
    have p37 : wr.cell? ⟨w.heap.size, 37, none⟩ = some (.slice A n c0) := by rw [HNN.out]; exact blk_cell b0 37
    by_cases hlt : i < n
    · have hltX : i < c.f8.length := by rw [← HNN.out]; exact hlt
      have hd : decide ((i : Int) < (n : Int)) = true := decide_eq_true (by omega)
      have hi0 : (0 : Int) ≤ (i : Int) := by omega
      have hi1 : (i : Int) < (n : Int) := by omega
      have HLT := Aside0.mk hlt
      have HLE : Aside0 (i ≤ n) := ⟨by omega⟩
      by_cases hge : 0 < i
      · have hg0 : decide ((i : Int) > 0) = true := decide_eq_true (by omega)
        have hps := hge
        replace hge : 0 ≤ i := by omega
        have HRX : Aside0 (Kd.R k60 60 wr.drew (w.heap.size + 2) (fun _ => True) u5 (passFrom 0 c t i)) := ⟨by apply Kd.R_drew; exact HM.out⟩
        have HBX : Aside0 (Below (w.heap.size + 2) W2 wr.drew) := ⟨HBL.out.trans (below_drew1 (Below.refl _ _))⟩
        have HSX : Aside0 (w.heap.size + 2 ≤ wr.drew.heap.size) := ⟨Nat.le_trans (by have := HSZ.out; omega) HBX.out.size⟩
        have HLI : Aside0 (((passFrom 0 c t i).length + 1) * 544 ≤ 140737488355328) := ⟨by have h1 := passFrom_len 0 c t i; have h2 := HLN.out; have h3 := HNN.out; have h4 := HLE.out; omega⟩
        have HCR := Aside0.mk (Kd.C_below HCA.out ((HAB.out).trans (HBL.out.mono (by omega))))
        obtain ⟨ad, hA, hcell⟩ := int_at HCR.out i hltX
        obtain ⟨x, hx⟩ : ∃ x, c.f8.getD i 0 = x := ⟨_, rfl⟩
        rw [hx] at hcell
        subst hA
        have z0 : wr.drew.cell? ⟨w.heap.size, 26, none⟩ = some (.string c.f4.f0.f0) := blk_cell b0 26
        have z1 : wr.drew.cell? ⟨w.heap.size, 27, none⟩ = some (.string c.f4.f0.f1) := blk_cell b0 27
        have z2 : wr.drew.cell? ⟨w.heap.size, 28, none⟩ = some (.string c.f4.f0.f2) := blk_cell b0 28
        have z3 : wr.drew.cell? ⟨w.heap.size, 1, none⟩ = some (.int .i64 c.f1) := blk_cell b0 1
        have z4 : wr.drew.cell? ⟨w.heap.size + 1, 0, none⟩ = some (.string t.f0) := blk_cell b1 0
        have z5 : wr.drew.cell? ⟨w.heap.size + 1, 1, none⟩ = some (.string t.f1) := blk_cell b1 1
        have z6 : wr.drew.cell? ⟨w.heap.size + 1, 2, none⟩ = some (.string t.f2) := blk_cell b1 2
        have z7 : wr.drew.cell? ⟨w.heap.size, 37, none⟩ = some (.slice (some ad) n c0) := by rw [HNN.out]; exact blk_cell b0 37
        have z8 : wr.drew.cell? (ad.add i) = some (.int .i64 x) := hcell
        have HX := Aside0.mk hx
        have HGE := Aside0.mk hge
        clear b0 b1 hltX hcell hx
        go_wp2_with fail
        refine start_ (n := 22) (S := fun w' => w'.cell? ⟨w.heap.size, 26, none⟩ = some (.string c.f4.f0.f0) ∧ w'.cell? ⟨w.heap.size, 27, none⟩ = some (.string c.f4.f0.f1) ∧ w'.cell? ⟨w.heap.size, 28, none⟩ = some (.string c.f4.f0.f2) ∧ w'.cell? ⟨w.heap.size, 1, none⟩ = some (.int .i64 c.f1) ∧ w'.cell? ⟨w.heap.size + 1, 0, none⟩ = some (.string t.f0) ∧ w'.cell? ⟨w.heap.size + 1, 1, none⟩ = some (.string t.f1) ∧ w'.cell? ⟨w.heap.size + 1, 2, none⟩ = some (.string t.f2) ∧ w'.cell? ⟨w.heap.size, 37, none⟩ = some (.slice (some ad) n c0) ∧ w'.cell? (ad.add i) = some (.int .i64 x)) (ds := [20]) #[false, false, false, false, false, false, false, false, false, false, false, false, false, false, false, false, false, false, false, false, false, false] (by kernel_rfl) rfl rfl ⟨z0, z1, z2, z3, z4, z5, z6, z7, z8⟩ (fun hHeld => ?_)
        generalize wr.drew = X at HRX HBX HSX z0 z1 z2 z3 z4 z5 z6 z7 z8 hHeld ⊢
        refine pure_ (i := 0) (N := some 29) (v := ?_) (a' := ?_) #[true, false, false, false, false, false, false, false, false, false, false, false, false, false, false, false, false, false, false, false, false, false] rfl rfl (by kernel_rfl) (fun _ _ _ h => h) (Or.inl ⟨by rfl, ?_⟩) ?_ ?_
        rotate_left
        · intro w'
          go_simp
          with_reducible rfl
        rotate_left
        · simp only [Act.put, List.setIfInBounds_toArray, List.set_cons_zero, List.set_cons_succ, i64_w, i32_w]
          rfl
        refine pure_ (i := 1) (N := some 30) (v := ?_) (a' := ?_) #[true, true, false, false, false, false, false, false, false, false, false, false, false, false, false, false, false, false, false, false, false, false] rfl rfl (by kernel_rfl) (fun _ _ _ h => h) (Or.inl ⟨by rfl, ?_⟩) ?_ ?_
        rotate_left
        · intro w'
          go_simp
          with_reducible rfl
        rotate_left
        · simp only [Act.put, List.setIfInBounds_toArray, List.set_cons_zero, List.set_cons_succ, i64_w, i32_w]
          rfl
        refine pure_ (i := 2) (N := some 31) (v := ?_) (a' := ?_) #[true, true, true, false, false, false, false, false, false, false, false, false, false, false, false, false, false, false, false, false, false, false] rfl rfl (by kernel_rfl) (fun _ _ _ h => h) (Or.inl ⟨by rfl, ?_⟩) ?_ ?_
        rotate_left
        · intro w'
          go_simp
          with_reducible rfl
        rotate_left
        · simp only [Act.put, List.setIfInBounds_toArray, List.set_cons_zero, List.set_cons_succ, i64_w, i32_w]
          rfl
        refine pure_ (i := 4) (N := some 33) (v := ?_) (a' := ?_) #[true, true, true, false, true, false, false, false, false, false, false, false, false, false, false, false, false, false, false, false, false, false] rfl rfl (by kernel_rfl) (fun _ _ _ h => h) (Or.inl ⟨by rfl, ?_⟩) ?_ ?_
        rotate_left
        · intro w'
          go_simp
          with_reducible rfl
        rotate_left
        · simp only [Act.put, List.setIfInBounds_toArray, List.set_cons_zero, List.set_cons_succ, i64_w, i32_w]
          rfl
        refine pure_ (i := 7) (N := some 36) (v := ?_) (a' := ?_) #[true, true, true, false, true, false, false, true, false, false, false, false, false, false, false, false, false, false, false, false, false, false] rfl rfl (by kernel_rfl) (fun _ _ _ h => h) (Or.inl ⟨by rfl, ?_⟩) ?_ ?_
        rotate_left
        · intro w'
          go_simp
          with_reducible rfl
        rotate_left
        · simp only [Act.put, List.setIfInBounds_toArray, List.set_cons_zero, List.set_cons_succ, i64_w, i32_w]
          rfl
        refine pure_ (i := 9) (N := some 38) (v := ?_) (a' := ?_) #[true, true, true, false, true, false, false, true, false, true, false, false, false, false, false, false, false, false, false, false, false, false] rfl rfl (by kernel_rfl) (fun _ _ _ h => h) (Or.inl ⟨by rfl, ?_⟩) ?_ ?_
        rotate_left
        · intro w'
          go_simp
          with_reducible rfl
        rotate_left
        · simp only [Act.put, List.setIfInBounds_toArray, List.set_cons_zero, List.set_cons_succ, i64_w, i32_w]
          rfl
        refine pure_ (i := 10) (N := some 39) (v := ?_) (a' := ?_) #[true, true, true, false, true, false, false, true, false, true, true, false, false, false, false, false, false, false, false, false, false, false] rfl rfl (by kernel_rfl) (fun _ _ _ h => h) (Or.inl ⟨by rfl, ?_⟩) ?_ ?_
        rotate_left
        · intro w'
          go_simp
          with_reducible rfl
        rotate_left
        · simp only [Act.put, List.setIfInBounds_toArray, List.set_cons_zero, List.set_cons_succ, i64_w, i32_w]
          rfl
        refine pure_ (i := 12) (N := some 41) (v := ?_) (a' := ?_) #[true, true, true, false, true, false, false, true, false, true, true, false, true, false, false, false, false, false, false, false, false, false] rfl rfl (by kernel_rfl) (fun _ _ _ h => h) (Or.inl ⟨by rfl, ?_⟩) ?_ ?_
        rotate_left
        · intro w'
          go_simp
          with_reducible rfl
        rotate_left
        · simp only [Act.put, List.setIfInBounds_toArray, List.set_cons_zero, List.set_cons_succ, i64_w, i32_w]
          rfl
        refine pure_ (i := 14) (N := some 43) (v := ?_) (a' := ?_) #[true, true, true, false, true, false, false, true, false, true, true, false, true, false, true, false, false, false, false, false, false, false] rfl rfl (by kernel_rfl) (fun _ _ _ h => h) (Or.inl ⟨by rfl, ?_⟩) ?_ ?_
        rotate_left
        · intro w'
          go_simp
          with_reducible rfl
        rotate_left
        · simp only [Act.put, List.setIfInBounds_toArray, List.set_cons_zero, List.set_cons_succ, i64_w, i32_w]
          rfl
        refine take_ (i := 3) (N := some 32) (v := ?_) (a' := ?_) #[true, true, true, true, true, false, false, true, false, true, true, false, true, false, true, false, false, false, false, false, false, false] rfl rfl (by kernel_rfl) (fun _ _ _ h => h) (Or.inl ⟨by rfl, ?_⟩) hHeld ?_ ?_
        rotate_left
        · rintro w' ⟨s0, s1, s2, s3, s4, s5, s6, s7, s8⟩
          go_simp
          with_reducible rfl
        rotate_left
        · simp only [Act.put, List.setIfInBounds_toArray, List.set_cons_zero, List.set_cons_succ, i64_w, i32_w]
          rfl
        refine take_ (i := 5) (N := some 34) (v := ?_) (a' := ?_) #[true, true, true, true, true, true, false, true, false, true, true, false, true, false, true, false, false, false, false, false, false, false] rfl rfl (by kernel_rfl) (fun _ _ _ h => h) (Or.inl ⟨by rfl, ?_⟩) hHeld ?_ ?_
        rotate_left
        · rintro w' ⟨s0, s1, s2, s3, s4, s5, s6, s7, s8⟩
          go_simp
          with_reducible rfl
        rotate_left
        · simp only [Act.put, List.setIfInBounds_toArray, List.set_cons_zero, List.set_cons_succ, i64_w, i32_w]
          rfl
        refine take_ (i := 6) (N := some 35) (v := ?_) (a' := ?_) #[true, true, true, true, true, true, true, true, false, true, true, false, true, false, true, false, false, false, false, false, false, false] rfl rfl (by kernel_rfl) (fun _ _ _ h => h) (Or.inl ⟨by rfl, ?_⟩) hHeld ?_ ?_
        rotate_left
        · rintro w' ⟨s0, s1, s2, s3, s4, s5, s6, s7, s8⟩
          go_simp
          with_reducible rfl
        rotate_left
        · simp only [Act.put, List.setIfInBounds_toArray, List.set_cons_zero, List.set_cons_succ, i64_w, i32_w]
          rfl
        refine take_ (i := 11) (N := some 40) (v := ?_) (a' := ?_) #[true, true, true, true, true, true, true, true, false, true, true, true, true, false, true, false, false, false, false, false, false, false] rfl rfl (by kernel_rfl) (fun _ _ _ h => h) (Or.inl ⟨by rfl, ?_⟩) hHeld ?_ ?_
        rotate_left
        · rintro w' ⟨s0, s1, s2, s3, s4, s5, s6, s7, s8⟩
          go_simp
          with_reducible rfl
        rotate_left
        · simp only [Act.put, List.setIfInBounds_toArray, List.set_cons_zero, List.set_cons_succ, i64_w, i32_w]
          rfl
        refine take_ (i := 13) (N := some 42) (v := ?_) (a' := ?_) #[true, true, true, true, true, true, true, true, false, true, true, true, true, true, true, false, false, false, false, false, false, false] rfl rfl (by kernel_rfl) (fun _ _ _ h => h) (Or.inl ⟨by rfl, ?_⟩) hHeld ?_ ?_
        rotate_left
        · rintro w' ⟨s0, s1, s2, s3, s4, s5, s6, s7, s8⟩
          go_simp
          with_reducible rfl
        rotate_left
        · simp only [Act.put, List.setIfInBounds_toArray, List.set_cons_zero, List.set_cons_succ, i64_w, i32_w]
          rfl
        refine pure_ (i := 15) (N := some 44) (v := ?_) (a' := ?_) #[true, true, true, true, true, true, true, true, false, true, true, true, true, true, true, true, false, false, false, false, false, false] rfl rfl (by kernel_rfl) (fun _ _ _ h => h) (Or.inl ⟨by rfl, ?_⟩) ?_ ?_
        rotate_left
        · intro w'
          go_simp
          with_reducible rfl
        rotate_left
        · simp only [Act.put, List.setIfInBounds_toArray, List.set_cons_zero, List.set_cons_succ, i64_w, i32_w]
          rfl
        refine take_ (i := 16) (N := some 45) (v := ?_) (a' := ?_) #[true, true, true, true, true, true, true, true, false, true, true, true, true, true, true, true, true, false, false, false, false, false] rfl rfl (by kernel_rfl) (fun _ _ _ h => h) (Or.inl ⟨by rfl, ?_⟩) hHeld ?_ ?_
        rotate_left
        · rintro w' ⟨s0, s1, s2, s3, s4, s5, s6, s7, s8⟩
          go_simp
          with_reducible rfl
        rotate_left
        · simp only [Act.put, List.setIfInBounds_toArray, List.set_cons_zero, List.set_cons_succ, i64_w, i32_w]
          rfl
        refine one_ (i := 8) (N := some 37) #[true, true, true, true, true, true, true, true, true, true, true, true, true, true, true, true, true, false, false, false, false, false] rfl rfl (by kernel_rfl) (by decide) (fun K hK => ?_)
        refine goes_ Try.func14 (by kernel_rfl) rfl #[.agg #[.string t.f0, .string t.f1, .string t.f2], .int .i64 (i : Int)] (by rfl) rfl rfl (by (try simp only [List.map_toArray, List.map_cons, List.map_nil]); first | done | rfl) ?_
        refine (Q44.secateurref25_Reg.calls t.f0 t.f1 t.f2 (i : Int) 1 t.f0 t.f1 t.f2 (i : Int) ⟨#[]⟩ ⟨#[]⟩ ⟨#[]⟩ ⟨#[]⟩ ⟨#[]⟩ 0 ⟨#[]⟩ X rfl).mono ?_
        rintro e w4 ⟨rfl, hb⟩
        refine ⟨_, rfl, ?_⟩
        have y0 := (hb.cell (World.block_lt_of_cell? _ _ z0)).trans z0
        have y1 := (hb.cell (World.block_lt_of_cell? _ _ z1)).trans z1
        have y2 := (hb.cell (World.block_lt_of_cell? _ _ z2)).trans z2
        have y3 := (hb.cell (World.block_lt_of_cell? _ _ z3)).trans z3
        have y4 := (hb.cell (World.block_lt_of_cell? _ _ z4)).trans z4
        have y5 := (hb.cell (World.block_lt_of_cell? _ _ z5)).trans z5
        have y6 := (hb.cell (World.block_lt_of_cell? _ _ z6)).trans z6
        have y7 := (hb.cell (World.block_lt_of_cell? _ _ z7)).trans z7
        have y8 := (hb.cell (World.block_lt_of_cell? _ _ z8)).trans z8
        have HR4 := Aside0.mk (Kd.R_below HRX.out hb)
        have HB4 := Aside0.mk (HBX.out.trans (hb.mono HSX.out))
        have HS4 := Aside0.mk (Nat.le_trans HSX.out hb.size)
        clear hb
        refine hK.out _ _ ⟨y0, y1, y2, y3, y4, y5, y6, y7, y8⟩ (fun hHeld => ?_)
        clear hK K
        refine norm_ (a' := ?_) ?_ ?_
        rotate_left
        · show Act.put _ (some 37) _ = _
          simp only [Act.put, List.setIfInBounds_toArray, List.set_cons_zero, List.set_cons_succ, i64_w, i32_w]
          rfl
        refine one_ (i := 17) (N := some 46) #[true, true, true, true, true, true, true, true, true, true, true, true, true, true, true, true, true, true, false, false, false, false] rfl rfl (by kernel_rfl) (by decide) (fun K hK => ?_)
        refine goes_ Try.func14 (by kernel_rfl) rfl #[.agg #[.string c.f4.f0.f0, .string c.f4.f0.f1, .string c.f4.f0.f2], .int .i64 x] (by rfl) rfl rfl (by (try simp only [List.map_toArray, List.map_cons, List.map_nil]); first | done | rfl) ?_
        refine (Q44.secateurref25_Reg.calls c.f4.f0.f0 c.f4.f0.f1 c.f4.f0.f2 x 1 c.f4.f0.f0 c.f4.f0.f1 c.f4.f0.f2 x ⟨#[]⟩ ⟨#[]⟩ ⟨#[]⟩ ⟨#[]⟩ ⟨#[]⟩ 0 ⟨#[]⟩ w4 rfl).mono ?_
        rintro e w5 ⟨rfl, hb⟩
        refine ⟨_, rfl, ?_⟩
        have x0 := (hb.cell (World.block_lt_of_cell? _ _ y0)).trans y0
        have x1 := (hb.cell (World.block_lt_of_cell? _ _ y1)).trans y1
        have x2 := (hb.cell (World.block_lt_of_cell? _ _ y2)).trans y2
        have x3 := (hb.cell (World.block_lt_of_cell? _ _ y3)).trans y3
        have x4 := (hb.cell (World.block_lt_of_cell? _ _ y4)).trans y4
        have x5 := (hb.cell (World.block_lt_of_cell? _ _ y5)).trans y5
        have x6 := (hb.cell (World.block_lt_of_cell? _ _ y6)).trans y6
        have x7 := (hb.cell (World.block_lt_of_cell? _ _ y7)).trans y7
        have x8 := (hb.cell (World.block_lt_of_cell? _ _ y8)).trans y8
        have HR5 := Aside0.mk (Kd.R_below HR4.out hb)
        have HB5 := Aside0.mk (HB4.out.trans (hb.mono HS4.out))
        have HS5 := Aside0.mk (Nat.le_trans HS4.out hb.size)
        clear hb
        refine hK.out _ _ ⟨x0, x1, x2, x3, x4, x5, x6, x7, x8⟩ (fun hHeld => ?_)
        clear hK K
        refine norm_ (a' := ?_) ?_ ?_
        rotate_left
        · show Act.put _ (some 46) _ = _
          simp only [Act.put, List.setIfInBounds_toArray, List.set_cons_zero, List.set_cons_succ, i64_w, i32_w]
          rfl
        refine one_ (i := 18) (N := some 47) #[true, true, true, true, true, true, true, true, true, true, true, true, true, true, true, true, true, true, true, false, false, false] rfl rfl (by kernel_rfl) (by decide) (fun K hK => ?_)
        refine goes_ Try.func39 (by kernel_rfl) rfl #[.agg #[.string c.f4.f0.f0, .string c.f4.f0.f1, .string c.f4.f0.f2], .int .i64 c.f1, .agg #[.int .i64 1, .string t.f0, .string t.f1, .string t.f2, .int .i64 (i : Int), .string ⟨#[]⟩, .string ⟨#[]⟩, .string ⟨#[]⟩, .string ⟨#[]⟩, .string ⟨#[]⟩, .int .i64 0, .string ⟨#[]⟩], .agg #[.int .i64 1, .string c.f4.f0.f0, .string c.f4.f0.f1, .string c.f4.f0.f2, .int .i64 x, .string ⟨#[]⟩, .string ⟨#[]⟩, .string ⟨#[]⟩, .string ⟨#[]⟩, .string ⟨#[]⟩, .int .i64 0, .string ⟨#[]⟩], .string ⟨#[]⟩] (by rfl) rfl rfl (by (try simp only [List.map_toArray, List.map_cons, List.map_nil]); first | done | rfl) ?_
        refine (ref_flows_reg c t (i : Int) x w5).mono ?_
        rintro e w6 ⟨rfl, hb⟩
        refine ⟨_, rfl, ?_⟩
        have o0 := (hb.cell (World.block_lt_of_cell? _ _ x0)).trans x0
        have o1 := (hb.cell (World.block_lt_of_cell? _ _ x1)).trans x1
        have o2 := (hb.cell (World.block_lt_of_cell? _ _ x2)).trans x2
        have o3 := (hb.cell (World.block_lt_of_cell? _ _ x3)).trans x3
        have o4 := (hb.cell (World.block_lt_of_cell? _ _ x4)).trans x4
        have o5 := (hb.cell (World.block_lt_of_cell? _ _ x5)).trans x5
        have o6 := (hb.cell (World.block_lt_of_cell? _ _ x6)).trans x6
        have o7 := (hb.cell (World.block_lt_of_cell? _ _ x7)).trans x7
        have o8 := (hb.cell (World.block_lt_of_cell? _ _ x8)).trans x8
        have HR6 := Aside0.mk (Kd.R_below HR5.out hb)
        have HB6 := Aside0.mk (HB5.out.trans (hb.mono HS5.out))
        have HS6 := Aside0.mk (Nat.le_trans HS5.out hb.size)
        clear hb
        refine hK.out _ _ ⟨o0, o1, o2, o3, o4, o5, o6, o7, o8⟩ (fun hHeld => ?_)
        clear hK K
        refine norm_ (a' := ?_) ?_ ?_
        rotate_left
        · show Act.put _ (some 47) _ = _
          simp only [Act.put, List.setIfInBounds_toArray, List.set_cons_zero, List.set_cons_succ, i64_w, i32_w]
          rfl
        refine one_ (i := 19) (N := some 48) #[true, true, true, true, true, true, true, true, true, true, true, true, true, true, true, true, true, true, true, true, false, false] rfl rfl (by kernel_rfl) (by decide) (fun K hK => ?_)
        refine value_ (w1 := ?_) (v := ?_) (by rfl) rfl ?_ ?_
        rotate_left 2
        · go_simp
          constructor
          · rfl
          · rfl
        refine hK.out _ _ ⟨(((below_alloc (Below.refl _ _) _).cell (World.block_lt_of_cell? _ _ o0)).trans o0), (((below_alloc (Below.refl _ _) _).cell (World.block_lt_of_cell? _ _ o1)).trans o1), (((below_alloc (Below.refl _ _) _).cell (World.block_lt_of_cell? _ _ o2)).trans o2), (((below_alloc (Below.refl _ _) _).cell (World.block_lt_of_cell? _ _ o3)).trans o3), (((below_alloc (Below.refl _ _) _).cell (World.block_lt_of_cell? _ _ o4)).trans o4), (((below_alloc (Below.refl _ _) _).cell (World.block_lt_of_cell? _ _ o5)).trans o5), (((below_alloc (Below.refl _ _) _).cell (World.block_lt_of_cell? _ _ o6)).trans o6), (((below_alloc (Below.refl _ _) _).cell (World.block_lt_of_cell? _ _ o7)).trans o7), (((below_alloc (Below.refl _ _) _).cell (World.block_lt_of_cell? _ _ o8)).trans o8)⟩ (fun hHeld => ?_)
        clear hK K
        refine norm_ (a' := ?_) ?_ ?_
        rotate_left
        · show Act.put _ (some 48) _ = _
          simp only [Act.put, List.setIfInBounds_toArray, List.set_cons_zero, List.set_cons_succ, i64_w, i32_w]
          rfl
        refine last_ (i := 20) (N := some 49) #[true, true, true, true, true, true, true, true, true, true, true, true, true, true, true, true, true, true, true, true, true, false] rfl rfl (by kernel_rfl) (by decide) (fun K hK => ?_)
        refine Kd.R_append_step k60 (w0 := W2) (w.heap.size + 2) (by rfl) _ _ 62 60 _ 544 rfl Try.underlying62 cons_info rfl (by decide) (by decide) u5 (passFrom 0 c t i) (⟨2, c.f1, (⟨1, t, (i : Int), z44, z46⟩ : S50), (⟨1, c.f4.f0, x, z44, z46⟩ : S50), ⟨c.f4.f0, 0, ⟨#[]⟩⟩, z44, ⟨#[]⟩, z25, []⟩ : S60) ((.int .i64 2) :: (.int .i64 c.f1) :: (.int .i64 1) :: (.string t.f0) :: (.string t.f1) :: (.string t.f2) :: (.int .i64 (i : Int)) :: (.string ⟨#[]⟩) :: [.string ⟨#[]⟩, .string ⟨#[]⟩, .string ⟨#[]⟩, .string ⟨#[]⟩, .int .i64 0, .string ⟨#[]⟩, .int .i64 1, .string c.f4.f0.f0, .string c.f4.f0.f1, .string c.f4.f0.f2, .int .i64 x, .string ⟨#[]⟩, .string ⟨#[]⟩, .string ⟨#[]⟩, .string ⟨#[]⟩, .string ⟨#[]⟩, .int .i64 0, .string ⟨#[]⟩, .string c.f4.f0.f0, .string c.f4.f0.f1, .string c.f4.f0.f2, .int .i64 0, .string ⟨#[]⟩, .string ⟨#[]⟩, .string ⟨#[]⟩, .string ⟨#[]⟩, .string ⟨#[]⟩, .string ⟨#[]⟩, .string ⟨#[]⟩, .slice none 0 0]) (fun _ => True) (fun _ => False) rfl (by rfl) (k60_mkM _ _ _ (⟨2, c.f1, (⟨1, t, (i : Int), z44, z46⟩ : S50), (⟨1, c.f4.f0, x, z44, z46⟩ : S50), ⟨c.f4.f0, 0, ⟨#[]⟩⟩, z44, ⟨#[]⟩, z25, []⟩ : S60) (v37 := .slice none 0 0) (Kd.R_nil _ _ _ _ _)) (fun _ hk => hk.elim) (fun _ _ => trivial) HR6.out HB6.out HS6.out (by have := HLI.out; omega) ?_
        intro v' w9 hR9 hB9 hg9 hat9
        obtain ⟨Av, nv, cv9, hv⟩ : ∃ A n c, v' = Value.slice A n c := by obtain ⟨A, c, e⟩ := Kd.R_slice hR9; exact ⟨A, _, c, e⟩
        subst hv
        have HR9 := Aside0.mk hR9
        have HB9 := Aside0.mk hB9
        clear hR9 hB9 hg9 hat9
        refine hK.out _ _ ?_
        clear hK K
        refine norm_ (a' := ?_) ?_ ?_
        rotate_left
        · show Act.put _ (some 49) _ = _
          simp only [Act.put, List.setIfInBounds_toArray, List.set_cons_zero, List.set_cons_succ, i64_w, i32_w]
          rfl
        refine pure_ (i := 21) (N := some 5) (v := ?_) (a' := ?_) #[true, true, true, true, true, true, true, true, true, true, true, true, true, true, true, true, true, true, true, true, true, true] rfl rfl (by kernel_rfl) (fun _ _ _ h => h) (Or.inl ⟨by rfl, ?_⟩) ?_ ?_
        rotate_left
        · intro w'
          go_simp
          with_reducible rfl
        rotate_left
        · simp only [Act.put, List.setIfInBounds_toArray, List.set_cons_zero, List.set_cons_succ, i64_w, i32_w]
          rfl
        refine done_ (by kernel_rfl) ?_
        go_wp2_with fail
        go_roundg (gk - 1)
        case measure => omega
        case rel => exact ⟨i + 1, by first | rw [show wrap64 ((i : Int) + 1) = ((i + 1 : Nat) : Int) from by have h1 := HLN.out; have h2 := HNN.out; have h3 := HLT.out; unfold wrap64; omega] | rfl, by omega, ⟨by rw [passFrom_ge HGE.out]; unfold passL; rw [HX.out]; exact HR9.out⟩, HB9⟩
      · obtain rfl : i = 0 := by omega
        replace hge : 0 ≤ 0 := Nat.le_refl 0
        replace hd : decide ((0 : Int) < (n : Int)) = true := decide_eq_true (by omega)
        replace hi0 : (0 : Int) ≤ 0 := by omega
        replace hi1 : (0 : Int) < (n : Int) := by omega
        have hg0 : decide ((0 : Int) > 0) = false := rfl
        have hn0 : 0 < n := hlt
        have e0 : wr.cell? ⟨w.heap.size, 0, none⟩ = some (.int .i64 c.f0) := blk_cell b0 0
        have HRX : Aside0 (Kd.R k60 60 wr.drew (w.heap.size + 2) (fun _ => True) u5 (passFrom 0 c t 0)) := ⟨by apply Kd.R_drew; exact HM.out⟩
        have HBX : Aside0 (Below (w.heap.size + 2) W2 wr.drew) := ⟨HBL.out.trans (below_drew1 (Below.refl _ _))⟩
        have HSX : Aside0 (w.heap.size + 2 ≤ wr.drew.heap.size) := ⟨Nat.le_trans (by have := HSZ.out; omega) HBX.out.size⟩
        have HLI : Aside0 (((passFrom 0 c t 0).length + 1) * 544 ≤ 140737488355328) := ⟨by have h1 := passFrom_len 0 c t 0; have h2 := HLN.out; have h3 := HNN.out; have h4 := HLE.out; omega⟩
        have HCR := Aside0.mk (Kd.C_below HCA.out ((HAB.out).trans (HBL.out.mono (by omega))))
        obtain ⟨ad, hA, hcell⟩ := int_at HCR.out 0 hltX
        obtain ⟨x, hx⟩ : ∃ x, c.f8.getD 0 0 = x := ⟨_, rfl⟩
        rw [hx] at hcell
        subst hA
        have z0 : wr.drew.cell? ⟨w.heap.size, 26, none⟩ = some (.string c.f4.f0.f0) := blk_cell b0 26
        have z1 : wr.drew.cell? ⟨w.heap.size, 27, none⟩ = some (.string c.f4.f0.f1) := blk_cell b0 27
        have z2 : wr.drew.cell? ⟨w.heap.size, 28, none⟩ = some (.string c.f4.f0.f2) := blk_cell b0 28
        have z3 : wr.drew.cell? ⟨w.heap.size, 1, none⟩ = some (.int .i64 c.f1) := blk_cell b0 1
        have z4 : wr.drew.cell? ⟨w.heap.size + 1, 0, none⟩ = some (.string t.f0) := blk_cell b1 0
        have z5 : wr.drew.cell? ⟨w.heap.size + 1, 1, none⟩ = some (.string t.f1) := blk_cell b1 1
        have z6 : wr.drew.cell? ⟨w.heap.size + 1, 2, none⟩ = some (.string t.f2) := blk_cell b1 2
        have z7 : wr.drew.cell? ⟨w.heap.size, 37, none⟩ = some (.slice (some ad) n c0) := by rw [HNN.out]; exact blk_cell b0 37
        have z8 : wr.drew.cell? ad = some (.int .i64 x) := by have h_ := hcell; rw [show ad.add 0 = ad from by unfold Addr.add; simp] at h_; exact h_
        have HX := Aside0.mk hx
        have HGE := Aside0.mk hge
        clear b0 b1 hltX hcell hx
        go_wp2_with fail
        refine start_ (n := 22) (S := fun w' => w'.cell? ⟨w.heap.size, 26, none⟩ = some (.string c.f4.f0.f0) ∧ w'.cell? ⟨w.heap.size, 27, none⟩ = some (.string c.f4.f0.f1) ∧ w'.cell? ⟨w.heap.size, 28, none⟩ = some (.string c.f4.f0.f2) ∧ w'.cell? ⟨w.heap.size, 1, none⟩ = some (.int .i64 c.f1) ∧ w'.cell? ⟨w.heap.size + 1, 0, none⟩ = some (.string t.f0) ∧ w'.cell? ⟨w.heap.size + 1, 1, none⟩ = some (.string t.f1) ∧ w'.cell? ⟨w.heap.size + 1, 2, none⟩ = some (.string t.f2) ∧ w'.cell? ⟨w.heap.size, 37, none⟩ = some (.slice (some ad) n c0) ∧ w'.cell? ad = some (.int .i64 x)) (ds := [20]) #[false, false, false, false, false, false, false, false, false, false, false, false, false, false, false, false, false, false, false, false, false, false] (by kernel_rfl) rfl rfl ⟨z0, z1, z2, z3, z4, z5, z6, z7, z8⟩ (fun hHeld => ?_)
        generalize wr.drew = X at HRX HBX HSX z0 z1 z2 z3 z4 z5 z6 z7 z8 hHeld ⊢
        refine pure_ (i := 0) (N := some 29) (v := ?_) (a' := ?_) #[true, false, false, false, false, false, false, false, false, false, false, false, false, false, false, false, false, false, false, false, false, false] rfl rfl (by kernel_rfl) (fun _ _ _ h => h) (Or.inl ⟨by rfl, ?_⟩) ?_ ?_
        rotate_left
        · intro w'
          go_simp
          with_reducible rfl
        rotate_left
        · simp only [Act.put, List.setIfInBounds_toArray, List.set_cons_zero, List.set_cons_succ, i64_w, i32_w]
          rfl
        refine pure_ (i := 1) (N := some 30) (v := ?_) (a' := ?_) #[true, true, false, false, false, false, false, false, false, false, false, false, false, false, false, false, false, false, false, false, false, false] rfl rfl (by kernel_rfl) (fun _ _ _ h => h) (Or.inl ⟨by rfl, ?_⟩) ?_ ?_
        rotate_left
        · intro w'
          go_simp
          with_reducible rfl
        rotate_left
        · simp only [Act.put, List.setIfInBounds_toArray, List.set_cons_zero, List.set_cons_succ, i64_w, i32_w]
          rfl
        refine pure_ (i := 2) (N := some 31) (v := ?_) (a' := ?_) #[true, true, true, false, false, false, false, false, false, false, false, false, false, false, false, false, false, false, false, false, false, false] rfl rfl (by kernel_rfl) (fun _ _ _ h => h) (Or.inl ⟨by rfl, ?_⟩) ?_ ?_
        rotate_left
        · intro w'
          go_simp
          with_reducible rfl
        rotate_left
        · simp only [Act.put, List.setIfInBounds_toArray, List.set_cons_zero, List.set_cons_succ, i64_w, i32_w]
          rfl
        refine pure_ (i := 4) (N := some 33) (v := ?_) (a' := ?_) #[true, true, true, false, true, false, false, false, false, false, false, false, false, false, false, false, false, false, false, false, false, false] rfl rfl (by kernel_rfl) (fun _ _ _ h => h) (Or.inl ⟨by rfl, ?_⟩) ?_ ?_
        rotate_left
        · intro w'
          go_simp
          with_reducible rfl
        rotate_left
        · simp only [Act.put, List.setIfInBounds_toArray, List.set_cons_zero, List.set_cons_succ, i64_w, i32_w]
          rfl
        refine pure_ (i := 7) (N := some 36) (v := ?_) (a' := ?_) #[true, true, true, false, true, false, false, true, false, false, false, false, false, false, false, false, false, false, false, false, false, false] rfl rfl (by kernel_rfl) (fun _ _ _ h => h) (Or.inl ⟨by rfl, ?_⟩) ?_ ?_
        rotate_left
        · intro w'
          go_simp
          with_reducible rfl
        rotate_left
        · simp only [Act.put, List.setIfInBounds_toArray, List.set_cons_zero, List.set_cons_succ, i64_w, i32_w]
          rfl
        refine pure_ (i := 9) (N := some 38) (v := ?_) (a' := ?_) #[true, true, true, false, true, false, false, true, false, true, false, false, false, false, false, false, false, false, false, false, false, false] rfl rfl (by kernel_rfl) (fun _ _ _ h => h) (Or.inl ⟨by rfl, ?_⟩) ?_ ?_
        rotate_left
        · intro w'
          go_simp
          with_reducible rfl
        rotate_left
        · simp only [Act.put, List.setIfInBounds_toArray, List.set_cons_zero, List.set_cons_succ, i64_w, i32_w]
          rfl
        refine pure_ (i := 10) (N := some 39) (v := ?_) (a' := ?_) #[true, true, true, false, true, false, false, true, false, true, true, false, false, false, false, false, false, false, false, false, false, false] rfl rfl (by kernel_rfl) (fun _ _ _ h => h) (Or.inl ⟨by rfl, ?_⟩) ?_ ?_
        rotate_left
        · intro w'
          go_simp
          with_reducible rfl
        rotate_left
        · simp only [Act.put, List.setIfInBounds_toArray, List.set_cons_zero, List.set_cons_succ, i64_w, i32_w]
          rfl
        refine pure_ (i := 12) (N := some 41) (v := ?_) (a' := ?_) #[true, true, true, false, true, false, false, true, false, true, true, false, true, false, false, false, false, false, false, false, false, false] rfl rfl (by kernel_rfl) (fun _ _ _ h => h) (Or.inl ⟨by rfl, ?_⟩) ?_ ?_
        rotate_left
        · intro w'
          go_simp
          with_reducible rfl
        rotate_left
        · simp only [Act.put, List.setIfInBounds_toArray, List.set_cons_zero, List.set_cons_succ, i64_w, i32_w]
          rfl
        refine pure_ (i := 14) (N := some 43) (v := ?_) (a' := ?_) #[true, true, true, false, true, false, false, true, false, true, true, false, true, false, true, false, false, false, false, false, false, false] rfl rfl (by kernel_rfl) (fun _ _ _ h => h) (Or.inl ⟨by rfl, ?_⟩) ?_ ?_
        rotate_left
        · intro w'
          go_simp
          with_reducible rfl
        rotate_left
        · simp only [Act.put, List.setIfInBounds_toArray, List.set_cons_zero, List.set_cons_succ, i64_w, i32_w]
          rfl
        refine take_ (i := 3) (N := some 32) (v := ?_) (a' := ?_) #[true, true, true, true, true, false, false, true, false, true, true, false, true, false, true, false, false, false, false, false, false, false] rfl rfl (by kernel_rfl) (fun _ _ _ h => h) (Or.inl ⟨by rfl, ?_⟩) hHeld ?_ ?_
        rotate_left
        · rintro w' ⟨s0, s1, s2, s3, s4, s5, s6, s7, s8⟩
          go_simp
          with_reducible rfl
        rotate_left
        · simp only [Act.put, List.setIfInBounds_toArray, List.set_cons_zero, List.set_cons_succ, i64_w, i32_w]
          rfl
        refine take_ (i := 5) (N := some 34) (v := ?_) (a' := ?_) #[true, true, true, true, true, true, false, true, false, true, true, false, true, false, true, false, false, false, false, false, false, false] rfl rfl (by kernel_rfl) (fun _ _ _ h => h) (Or.inl ⟨by rfl, ?_⟩) hHeld ?_ ?_
        rotate_left
        · rintro w' ⟨s0, s1, s2, s3, s4, s5, s6, s7, s8⟩
          go_simp
          with_reducible rfl
        rotate_left
        · simp only [Act.put, List.setIfInBounds_toArray, List.set_cons_zero, List.set_cons_succ, i64_w, i32_w]
          rfl
        refine take_ (i := 6) (N := some 35) (v := ?_) (a' := ?_) #[true, true, true, true, true, true, true, true, false, true, true, false, true, false, true, false, false, false, false, false, false, false] rfl rfl (by kernel_rfl) (fun _ _ _ h => h) (Or.inl ⟨by rfl, ?_⟩) hHeld ?_ ?_
        rotate_left
        · rintro w' ⟨s0, s1, s2, s3, s4, s5, s6, s7, s8⟩
          go_simp
          with_reducible rfl
        rotate_left
        · simp only [Act.put, List.setIfInBounds_toArray, List.set_cons_zero, List.set_cons_succ, i64_w, i32_w]
          rfl
        refine take_ (i := 11) (N := some 40) (v := ?_) (a' := ?_) #[true, true, true, true, true, true, true, true, false, true, true, true, true, false, true, false, false, false, false, false, false, false] rfl rfl (by kernel_rfl) (fun _ _ _ h => h) (Or.inl ⟨by rfl, ?_⟩) hHeld ?_ ?_
        rotate_left
        · rintro w' ⟨s0, s1, s2, s3, s4, s5, s6, s7, s8⟩
          go_simp
          with_reducible rfl
        rotate_left
        · simp only [Act.put, List.setIfInBounds_toArray, List.set_cons_zero, List.set_cons_succ, i64_w, i32_w]
          rfl
        refine take_ (i := 13) (N := some 42) (v := ?_) (a' := ?_) #[true, true, true, true, true, true, true, true, false, true, true, true, true, true, true, false, false, false, false, false, false, false] rfl rfl (by kernel_rfl) (fun _ _ _ h => h) (Or.inl ⟨by rfl, ?_⟩) hHeld ?_ ?_
        rotate_left
        · rintro w' ⟨s0, s1, s2, s3, s4, s5, s6, s7, s8⟩
          go_simp
          with_reducible rfl
        rotate_left
        · simp only [Act.put, List.setIfInBounds_toArray, List.set_cons_zero, List.set_cons_succ, i64_w, i32_w]
          rfl
        refine pure_ (i := 15) (N := some 44) (v := ?_) (a' := ?_) #[true, true, true, true, true, true, true, true, false, true, true, true, true, true, true, true, false, false, false, false, false, false] rfl rfl (by kernel_rfl) (fun _ _ _ h => h) (Or.inl ⟨by rfl, ?_⟩) ?_ ?_
        rotate_left
        · intro w'
          go_simp
          with_reducible rfl
        rotate_left
        · simp only [Act.put, List.setIfInBounds_toArray, List.set_cons_zero, List.set_cons_succ, i64_w, i32_w]
          rfl
        refine take_ (i := 16) (N := some 45) (v := ?_) (a' := ?_) #[true, true, true, true, true, true, true, true, false, true, true, true, true, true, true, true, true, false, false, false, false, false] rfl rfl (by kernel_rfl) (fun _ _ _ h => h) (Or.inl ⟨by rfl, ?_⟩) hHeld ?_ ?_
        rotate_left
        · rintro w' ⟨s0, s1, s2, s3, s4, s5, s6, s7, s8⟩
          go_simp
          with_reducible rfl
        rotate_left
        · simp only [Act.put, List.setIfInBounds_toArray, List.set_cons_zero, List.set_cons_succ, i64_w, i32_w]
          rfl
        refine one_ (i := 8) (N := some 37) #[true, true, true, true, true, true, true, true, true, true, true, true, true, true, true, true, true, false, false, false, false, false] rfl rfl (by kernel_rfl) (by decide) (fun K hK => ?_)
        refine goes_ Try.func14 (by kernel_rfl) rfl #[.agg #[.string t.f0, .string t.f1, .string t.f2], .int .i64 0] (by rfl) rfl rfl (by (try simp only [List.map_toArray, List.map_cons, List.map_nil]); first | done | rfl) ?_
        refine (Q44.secateurref25_Reg.calls t.f0 t.f1 t.f2 0 1 t.f0 t.f1 t.f2 0 ⟨#[]⟩ ⟨#[]⟩ ⟨#[]⟩ ⟨#[]⟩ ⟨#[]⟩ 0 ⟨#[]⟩ X rfl).mono ?_
        rintro e w4 ⟨rfl, hb⟩
        refine ⟨_, rfl, ?_⟩
        have y0 := (hb.cell (World.block_lt_of_cell? _ _ z0)).trans z0
        have y1 := (hb.cell (World.block_lt_of_cell? _ _ z1)).trans z1
        have y2 := (hb.cell (World.block_lt_of_cell? _ _ z2)).trans z2
        have y3 := (hb.cell (World.block_lt_of_cell? _ _ z3)).trans z3
        have y4 := (hb.cell (World.block_lt_of_cell? _ _ z4)).trans z4
        have y5 := (hb.cell (World.block_lt_of_cell? _ _ z5)).trans z5
        have y6 := (hb.cell (World.block_lt_of_cell? _ _ z6)).trans z6
        have y7 := (hb.cell (World.block_lt_of_cell? _ _ z7)).trans z7
        have y8 := (hb.cell (World.block_lt_of_cell? _ _ z8)).trans z8
        have HR4 := Aside0.mk (Kd.R_below HRX.out hb)
        have HB4 := Aside0.mk (HBX.out.trans (hb.mono HSX.out))
        have HS4 := Aside0.mk (Nat.le_trans HSX.out hb.size)
        clear hb
        refine hK.out _ _ ⟨y0, y1, y2, y3, y4, y5, y6, y7, y8⟩ (fun hHeld => ?_)
        clear hK K
        refine norm_ (a' := ?_) ?_ ?_
        rotate_left
        · show Act.put _ (some 37) _ = _
          simp only [Act.put, List.setIfInBounds_toArray, List.set_cons_zero, List.set_cons_succ, i64_w, i32_w]
          rfl
        refine one_ (i := 17) (N := some 46) #[true, true, true, true, true, true, true, true, true, true, true, true, true, true, true, true, true, true, false, false, false, false] rfl rfl (by kernel_rfl) (by decide) (fun K hK => ?_)
        refine goes_ Try.func14 (by kernel_rfl) rfl #[.agg #[.string c.f4.f0.f0, .string c.f4.f0.f1, .string c.f4.f0.f2], .int .i64 x] (by rfl) rfl rfl (by (try simp only [List.map_toArray, List.map_cons, List.map_nil]); first | done | rfl) ?_
        refine (Q44.secateurref25_Reg.calls c.f4.f0.f0 c.f4.f0.f1 c.f4.f0.f2 x 1 c.f4.f0.f0 c.f4.f0.f1 c.f4.f0.f2 x ⟨#[]⟩ ⟨#[]⟩ ⟨#[]⟩ ⟨#[]⟩ ⟨#[]⟩ 0 ⟨#[]⟩ w4 rfl).mono ?_
        rintro e w5 ⟨rfl, hb⟩
        refine ⟨_, rfl, ?_⟩
        have x0 := (hb.cell (World.block_lt_of_cell? _ _ y0)).trans y0
        have x1 := (hb.cell (World.block_lt_of_cell? _ _ y1)).trans y1
        have x2 := (hb.cell (World.block_lt_of_cell? _ _ y2)).trans y2
        have x3 := (hb.cell (World.block_lt_of_cell? _ _ y3)).trans y3
        have x4 := (hb.cell (World.block_lt_of_cell? _ _ y4)).trans y4
        have x5 := (hb.cell (World.block_lt_of_cell? _ _ y5)).trans y5
        have x6 := (hb.cell (World.block_lt_of_cell? _ _ y6)).trans y6
        have x7 := (hb.cell (World.block_lt_of_cell? _ _ y7)).trans y7
        have x8 := (hb.cell (World.block_lt_of_cell? _ _ y8)).trans y8
        have HR5 := Aside0.mk (Kd.R_below HR4.out hb)
        have HB5 := Aside0.mk (HB4.out.trans (hb.mono HS4.out))
        have HS5 := Aside0.mk (Nat.le_trans HS4.out hb.size)
        clear hb
        refine hK.out _ _ ⟨x0, x1, x2, x3, x4, x5, x6, x7, x8⟩ (fun hHeld => ?_)
        clear hK K
        refine norm_ (a' := ?_) ?_ ?_
        rotate_left
        · show Act.put _ (some 46) _ = _
          simp only [Act.put, List.setIfInBounds_toArray, List.set_cons_zero, List.set_cons_succ, i64_w, i32_w]
          rfl
        refine one_ (i := 18) (N := some 47) #[true, true, true, true, true, true, true, true, true, true, true, true, true, true, true, true, true, true, true, false, false, false] rfl rfl (by kernel_rfl) (by decide) (fun K hK => ?_)
        refine goes_ Try.func39 (by kernel_rfl) rfl #[.agg #[.string c.f4.f0.f0, .string c.f4.f0.f1, .string c.f4.f0.f2], .int .i64 c.f1, .agg #[.int .i64 1, .string t.f0, .string t.f1, .string t.f2, .int .i64 0, .string ⟨#[]⟩, .string ⟨#[]⟩, .string ⟨#[]⟩, .string ⟨#[]⟩, .string ⟨#[]⟩, .int .i64 0, .string ⟨#[]⟩], .agg #[.int .i64 1, .string c.f4.f0.f0, .string c.f4.f0.f1, .string c.f4.f0.f2, .int .i64 x, .string ⟨#[]⟩, .string ⟨#[]⟩, .string ⟨#[]⟩, .string ⟨#[]⟩, .string ⟨#[]⟩, .int .i64 0, .string ⟨#[]⟩], .string ⟨#[]⟩] (by rfl) rfl rfl (by (try simp only [List.map_toArray, List.map_cons, List.map_nil]); first | done | rfl) ?_
        refine (ref_flows_reg c t 0 x w5).mono ?_
        rintro e w6 ⟨rfl, hb⟩
        refine ⟨_, rfl, ?_⟩
        have o0 := (hb.cell (World.block_lt_of_cell? _ _ x0)).trans x0
        have o1 := (hb.cell (World.block_lt_of_cell? _ _ x1)).trans x1
        have o2 := (hb.cell (World.block_lt_of_cell? _ _ x2)).trans x2
        have o3 := (hb.cell (World.block_lt_of_cell? _ _ x3)).trans x3
        have o4 := (hb.cell (World.block_lt_of_cell? _ _ x4)).trans x4
        have o5 := (hb.cell (World.block_lt_of_cell? _ _ x5)).trans x5
        have o6 := (hb.cell (World.block_lt_of_cell? _ _ x6)).trans x6
        have o7 := (hb.cell (World.block_lt_of_cell? _ _ x7)).trans x7
        have o8 := (hb.cell (World.block_lt_of_cell? _ _ x8)).trans x8
        have HR6 := Aside0.mk (Kd.R_below HR5.out hb)
        have HB6 := Aside0.mk (HB5.out.trans (hb.mono HS5.out))
        have HS6 := Aside0.mk (Nat.le_trans HS5.out hb.size)
        clear hb
        refine hK.out _ _ ⟨o0, o1, o2, o3, o4, o5, o6, o7, o8⟩ (fun hHeld => ?_)
        clear hK K
        refine norm_ (a' := ?_) ?_ ?_
        rotate_left
        · show Act.put _ (some 47) _ = _
          simp only [Act.put, List.setIfInBounds_toArray, List.set_cons_zero, List.set_cons_succ, i64_w, i32_w]
          rfl
        refine one_ (i := 19) (N := some 48) #[true, true, true, true, true, true, true, true, true, true, true, true, true, true, true, true, true, true, true, true, false, false] rfl rfl (by kernel_rfl) (by decide) (fun K hK => ?_)
        refine value_ (w1 := ?_) (v := ?_) (by rfl) rfl ?_ ?_
        rotate_left 2
        · go_simp
          constructor
          · rfl
          · rfl
        refine hK.out _ _ ⟨(((below_alloc (Below.refl _ _) _).cell (World.block_lt_of_cell? _ _ o0)).trans o0), (((below_alloc (Below.refl _ _) _).cell (World.block_lt_of_cell? _ _ o1)).trans o1), (((below_alloc (Below.refl _ _) _).cell (World.block_lt_of_cell? _ _ o2)).trans o2), (((below_alloc (Below.refl _ _) _).cell (World.block_lt_of_cell? _ _ o3)).trans o3), (((below_alloc (Below.refl _ _) _).cell (World.block_lt_of_cell? _ _ o4)).trans o4), (((below_alloc (Below.refl _ _) _).cell (World.block_lt_of_cell? _ _ o5)).trans o5), (((below_alloc (Below.refl _ _) _).cell (World.block_lt_of_cell? _ _ o6)).trans o6), (((below_alloc (Below.refl _ _) _).cell (World.block_lt_of_cell? _ _ o7)).trans o7), (((below_alloc (Below.refl _ _) _).cell (World.block_lt_of_cell? _ _ o8)).trans o8)⟩ (fun hHeld => ?_)
        clear hK K
        refine norm_ (a' := ?_) ?_ ?_
        rotate_left
        · show Act.put _ (some 48) _ = _
          simp only [Act.put, List.setIfInBounds_toArray, List.set_cons_zero, List.set_cons_succ, i64_w, i32_w]
          rfl
        refine last_ (i := 20) (N := some 49) #[true, true, true, true, true, true, true, true, true, true, true, true, true, true, true, true, true, true, true, true, true, false] rfl rfl (by kernel_rfl) (by decide) (fun K hK => ?_)
        refine Kd.R_append_step k60 (w0 := W2) (w.heap.size + 2) (by rfl) _ _ 62 60 _ 544 rfl Try.underlying62 cons_info rfl (by decide) (by decide) u5 (passFrom 0 c t 0) (⟨2, c.f1, (⟨1, t, 0, z44, z46⟩ : S50), (⟨1, c.f4.f0, x, z44, z46⟩ : S50), ⟨c.f4.f0, 0, ⟨#[]⟩⟩, z44, ⟨#[]⟩, z25, []⟩ : S60) ((.int .i64 2) :: (.int .i64 c.f1) :: (.int .i64 1) :: (.string t.f0) :: (.string t.f1) :: (.string t.f2) :: (.int .i64 0) :: (.string ⟨#[]⟩) :: [.string ⟨#[]⟩, .string ⟨#[]⟩, .string ⟨#[]⟩, .string ⟨#[]⟩, .int .i64 0, .string ⟨#[]⟩, .int .i64 1, .string c.f4.f0.f0, .string c.f4.f0.f1, .string c.f4.f0.f2, .int .i64 x, .string ⟨#[]⟩, .string ⟨#[]⟩, .string ⟨#[]⟩, .string ⟨#[]⟩, .string ⟨#[]⟩, .int .i64 0, .string ⟨#[]⟩, .string c.f4.f0.f0, .string c.f4.f0.f1, .string c.f4.f0.f2, .int .i64 0, .string ⟨#[]⟩, .string ⟨#[]⟩, .string ⟨#[]⟩, .string ⟨#[]⟩, .string ⟨#[]⟩, .string ⟨#[]⟩, .string ⟨#[]⟩, .slice none 0 0]) (fun _ => True) (fun _ => False) rfl (by rfl) (k60_mkM _ _ _ (⟨2, c.f1, (⟨1, t, 0, z44, z46⟩ : S50), (⟨1, c.f4.f0, x, z44, z46⟩ : S50), ⟨c.f4.f0, 0, ⟨#[]⟩⟩, z44, ⟨#[]⟩, z25, []⟩ : S60) (v37 := .slice none 0 0) (Kd.R_nil _ _ _ _ _)) (fun _ hk => hk.elim) (fun _ _ => trivial) HR6.out HB6.out HS6.out (by have := HLI.out; omega) ?_
        intro v' w9 hR9 hB9 hg9 hat9
        obtain ⟨Av, nv, cv9, hv⟩ : ∃ A n c, v' = Value.slice A n c := by obtain ⟨A, c, e⟩ := Kd.R_slice hR9; exact ⟨A, _, c, e⟩
        subst hv
        have HR9 := Aside0.mk hR9
        have HB9 := Aside0.mk hB9
        clear hR9 hB9 hg9 hat9
        refine hK.out _ _ ?_
        clear hK K
        refine norm_ (a' := ?_) ?_ ?_
        rotate_left
        · show Act.put _ (some 49) _ = _
          simp only [Act.put, List.setIfInBounds_toArray, List.set_cons_zero, List.set_cons_succ, i64_w, i32_w]
          rfl
        refine pure_ (i := 21) (N := some 5) (v := ?_) (a' := ?_) #[true, true, true, true, true, true, true, true, true, true, true, true, true, true, true, true, true, true, true, true, true, true] rfl rfl (by kernel_rfl) (fun _ _ _ h => h) (Or.inl ⟨by rfl, ?_⟩) ?_ ?_
        rotate_left
        · intro w'
          go_simp
          with_reducible rfl
        rotate_left
        · simp only [Act.put, List.setIfInBounds_toArray, List.set_cons_zero, List.set_cons_succ, i64_w, i32_w]
          rfl
        refine done_ (by kernel_rfl) ?_
        go_wp2_with fail
        go_roundg (gk - 1)
        case measure => omega
        case rel => exact ⟨0 + 1, rfl, by omega, ⟨by rw [passFrom_ge HGE.out]; unfold passL; rw [HX.out]; exact HR9.out⟩, HB9⟩
    · have hd : decide ((i : Int) < (n : Int)) = false := decide_eq_false (by omega)
      obtain rfl : i = n := by omega
      have HLE : Aside0 (i ≤ i) := ⟨Nat.le_refl _⟩
      have e2 : wr.cell? ⟨w.heap.size, 2, none⟩ = some (.int .i64 c.f2.f0) := blk_cell b0 2
      by_cases ht : c.f2.f0 = 0
      · have k0 : (c.f2.f0 != 0) = false := by rw [ht]; rfl
        have HFIN := Aside0.mk (Kd.R_lower HM.out (show w.heap.size ≤ w.heap.size + 2 by omega))
        have HBF := Aside0.mk (HAB.out.trans (HBL.out.mono (show w.heap.size ≤ w.heap.size + 2 by omega)))
        have HT := Aside0.mk ht
        clear b0 b1 ht
        go_wp2_with fail
        exact bodyPost_ret (results_tmp rfl _ _ _) rfl ⟨u5, rfl, by rw [passList_none HT.out, ← HNN.out]; exact HFIN.out, HBF.out⟩
      · have k0 : (c.f2.f0 != 0) = true := bne_iff_ne.2 ht
        have HRX : Aside0 (Kd.R k60 60 wr.drew (w.heap.size + 2) (fun _ => True) u5 (passFrom 0 c t i)) := ⟨by apply Kd.R_drew; exact HM.out⟩
        have HBX : Aside0 (Below (w.heap.size + 2) W2 wr.drew) := ⟨HBL.out.trans (below_drew1 (Below.refl _ _))⟩
        have HSX : Aside0 (w.heap.size + 2 ≤ wr.drew.heap.size) := ⟨Nat.le_trans (by have := HSZ.out; omega) HBX.out.size⟩
        have HLI : Aside0 (((passFrom 0 c t i).length + 1) * 544 ≤ 140737488355328) := ⟨by have h1 := passFrom_len 0 c t i; have h2 := HLN.out; have h3 := HNN.out; have h4 := HLE.out; omega⟩
        have z0 : wr.drew.cell? ⟨w.heap.size, 26, none⟩ = some (.string c.f4.f0.f0) := blk_cell b0 26
        have z1 : wr.drew.cell? ⟨w.heap.size, 27, none⟩ = some (.string c.f4.f0.f1) := blk_cell b0 27
        have z2 : wr.drew.cell? ⟨w.heap.size, 28, none⟩ = some (.string c.f4.f0.f2) := blk_cell b0 28
        have z3 : wr.drew.cell? ⟨w.heap.size, 1, none⟩ = some (.int .i64 c.f1) := blk_cell b0 1
        have z4 : wr.drew.cell? ⟨w.heap.size + 1, 0, none⟩ = some (.string t.f0) := blk_cell b1 0
        have z5 : wr.drew.cell? ⟨w.heap.size + 1, 1, none⟩ = some (.string t.f1) := blk_cell b1 1
        have z6 : wr.drew.cell? ⟨w.heap.size + 1, 2, none⟩ = some (.string t.f2) := blk_cell b1 2
        have zk : wr.drew.heap[w.heap.size]? = some (Obj.cells (List.toArray ((.int .i64 c.f0) :: (.int .i64 c.f1) :: (.int .i64 c.f2.f0) :: (.string c.f2.f1.f0) :: (.string c.f2.f1.f1) :: (.string c.f2.f1.f2) :: (.int .i64 c.f2.f2) :: (.string c.f2.f3.f0) :: [.string c.f2.f3.f1, .string c.f2.f4.f0.f0, .string c.f2.f4.f0.f1, .string c.f2.f4.f0.f2, .int .i64 c.f2.f4.f1, .string c.f2.f4.f2, .int .i64 c.f3.f0, .string c.f3.f1.f0, .string c.f3.f1.f1, .string c.f3.f1.f2, .int .i64 c.f3.f2, .string c.f3.f3.f0, .string c.f3.f3.f1, .string c.f3.f4.f0.f0, .string c.f3.f4.f0.f1, .string c.f3.f4.f0.f2, .int .i64 c.f3.f4.f1, .string c.f3.f4.f2, .string c.f4.f0.f0, .string c.f4.f0.f1, .string c.f4.f0.f2, .int .i64 c.f4.f1, .string c.f4.f2, .string c.f5.f0, .string c.f5.f1, .string c.f6, .string c.f7.f0, .string c.f7.f1, .string c.f7.f2, .slice A c.f8.length c0])) 60 (0, 0)) := b0
        have HT := Aside0.mk ht
        clear b0 b1 ht
        go_wp2_with fail
        refine start_ (n := 14) (S := fun w' => w'.heap[w.heap.size]? = some (Obj.cells (List.toArray ((.int .i64 c.f0) :: (.int .i64 c.f1) :: (.int .i64 c.f2.f0) :: (.string c.f2.f1.f0) :: (.string c.f2.f1.f1) :: (.string c.f2.f1.f2) :: (.int .i64 c.f2.f2) :: (.string c.f2.f3.f0) :: [.string c.f2.f3.f1, .string c.f2.f4.f0.f0, .string c.f2.f4.f0.f1, .string c.f2.f4.f0.f2, .int .i64 c.f2.f4.f1, .string c.f2.f4.f2, .int .i64 c.f3.f0, .string c.f3.f1.f0, .string c.f3.f1.f1, .string c.f3.f1.f2, .int .i64 c.f3.f2, .string c.f3.f3.f0, .string c.f3.f3.f1, .string c.f3.f4.f0.f0, .string c.f3.f4.f0.f1, .string c.f3.f4.f0.f2, .int .i64 c.f3.f4.f1, .string c.f3.f4.f2, .string c.f4.f0.f0, .string c.f4.f0.f1, .string c.f4.f0.f2, .int .i64 c.f4.f1, .string c.f4.f2, .string c.f5.f0, .string c.f5.f1, .string c.f6, .string c.f7.f0, .string c.f7.f1, .string c.f7.f2, .slice A c.f8.length c0])) 60 (0, 0)) ∧ w'.cell? ⟨w.heap.size, 26, none⟩ = some (.string c.f4.f0.f0) ∧ w'.cell? ⟨w.heap.size, 27, none⟩ = some (.string c.f4.f0.f1) ∧ w'.cell? ⟨w.heap.size, 28, none⟩ = some (.string c.f4.f0.f2) ∧ w'.cell? ⟨w.heap.size, 1, none⟩ = some (.int .i64 c.f1) ∧ w'.cell? ⟨w.heap.size + 1, 0, none⟩ = some (.string t.f0) ∧ w'.cell? ⟨w.heap.size + 1, 1, none⟩ = some (.string t.f1) ∧ w'.cell? ⟨w.heap.size + 1, 2, none⟩ = some (.string t.f2)) (ds := [12]) #[false, false, false, false, false, false, false, false, false, false, false, false, false, false] (by kernel_rfl) rfl rfl ⟨zk, z0, z1, z2, z3, z4, z5, z6⟩ (fun hHeld => ?_)
        generalize wr.drew = X at HRX HBX HSX zk z0 z1 z2 z3 z4 z5 z6 hHeld ⊢
        refine pure_ (i := 0) (N := some 54) (v := ?_) (a' := ?_) #[true, false, false, false, false, false, false, false, false, false, false, false, false, false] rfl rfl (by kernel_rfl) (fun _ _ _ h => h) (Or.inl ⟨by rfl, ?_⟩) ?_ ?_
        rotate_left
        · intro w'
          go_simp
          with_reducible rfl
        rotate_left
        · simp only [Act.put, List.setIfInBounds_toArray, List.set_cons_zero, List.set_cons_succ, i64_w, i32_w]
          rfl
        refine pure_ (i := 1) (N := some 55) (v := ?_) (a' := ?_) #[true, true, false, false, false, false, false, false, false, false, false, false, false, false] rfl rfl (by kernel_rfl) (fun _ _ _ h => h) (Or.inl ⟨by rfl, ?_⟩) ?_ ?_
        rotate_left
        · intro w'
          go_simp
          with_reducible rfl
        rotate_left
        · simp only [Act.put, List.setIfInBounds_toArray, List.set_cons_zero, List.set_cons_succ, i64_w, i32_w]
          rfl
        refine pure_ (i := 2) (N := some 56) (v := ?_) (a' := ?_) #[true, true, true, false, false, false, false, false, false, false, false, false, false, false] rfl rfl (by kernel_rfl) (fun _ _ _ h => h) (Or.inl ⟨by rfl, ?_⟩) ?_ ?_
        rotate_left
        · intro w'
          go_simp
          with_reducible rfl
        rotate_left
        · simp only [Act.put, List.setIfInBounds_toArray, List.set_cons_zero, List.set_cons_succ, i64_w, i32_w]
          rfl
        refine pure_ (i := 4) (N := some 58) (v := ?_) (a' := ?_) #[true, true, true, false, true, false, false, false, false, false, false, false, false, false] rfl rfl (by kernel_rfl) (fun _ _ _ h => h) (Or.inl ⟨by rfl, ?_⟩) ?_ ?_
        rotate_left
        · intro w'
          go_simp
          with_reducible rfl
        rotate_left
        · simp only [Act.put, List.setIfInBounds_toArray, List.set_cons_zero, List.set_cons_succ, i64_w, i32_w]
          rfl
        refine pure_ (i := 6) (N := some 60) (v := ?_) (a' := ?_) #[true, true, true, false, true, false, true, false, false, false, false, false, false, false] rfl rfl (by kernel_rfl) (fun _ _ _ h => h) (Or.inl ⟨by rfl, ?_⟩) ?_ ?_
        rotate_left
        · intro w'
          go_simp
          with_reducible rfl
        rotate_left
        · simp only [Act.put, List.setIfInBounds_toArray, List.set_cons_zero, List.set_cons_succ, i64_w, i32_w]
          rfl
        refine take_ (i := 3) (N := some 57) (v := ?_) (a' := ?_) #[true, true, true, true, true, false, true, false, false, false, false, false, false, false] rfl rfl (by kernel_rfl) (fun _ _ _ h => h) (Or.inl ⟨by rfl, ?_⟩) hHeld ?_ ?_
        rotate_left
        · rintro w' ⟨s0, s1, s2, s3, s4, s5, s6, s7⟩
          go_simp
          with_reducible rfl
        rotate_left
        · simp only [Act.put, List.setIfInBounds_toArray, List.set_cons_zero, List.set_cons_succ, i64_w, i32_w]
          rfl
        refine take_ (i := 5) (N := some 59) (v := ?_) (a' := ?_) #[true, true, true, true, true, true, true, false, false, false, false, false, false, false] rfl rfl (by kernel_rfl) (fun _ _ _ h => h) (Or.inl ⟨by rfl, ?_⟩) hHeld ?_ ?_
        rotate_left
        · rintro w' ⟨s0, s1, s2, s3, s4, s5, s6, s7⟩
          go_simp
          with_reducible rfl
        rotate_left
        · simp only [Act.put, List.setIfInBounds_toArray, List.set_cons_zero, List.set_cons_succ, i64_w, i32_w]
          rfl
        refine take_ (i := 7) (N := some 61) (a' := ?_) #[true, true, true, true, true, true, true, true, false, false, false, false, false, false] rfl rfl (by kernel_rfl) (fun _ _ _ h => h) (yieldsIf_load_mid (by rfl) 50 (.tmp 60) rfl (w.heap.size) 2 rfl [.int .i64 c.f2.f0, .string c.f2.f1.f0, .string c.f2.f1.f1, .string c.f2.f1.f2, .int .i64 c.f2.f2, .string c.f2.f3.f0, .string c.f2.f3.f1, .string c.f2.f4.f0.f0, .string c.f2.f4.f0.f1, .string c.f2.f4.f0.f2, .int .i64 c.f2.f4.f1, .string c.f2.f4.f2] _ (fun w' hw' => range_blk hw'.1 2 12 _ (by kernel_rfl)) Try.underlying50 rfl (by kernel_rfl)) hHeld ?_ ?_
        rotate_left
        · simp only [Act.put, List.setIfInBounds_toArray, List.set_cons_zero, List.set_cons_succ, i64_w, i32_w]
          rfl
        refine take_ (i := 8) (N := some 62) (v := ?_) (a' := ?_) #[true, true, true, true, true, true, true, true, true, false, false, false, false, false] rfl rfl (by kernel_rfl) (fun _ _ _ h => h) (Or.inl ⟨by rfl, ?_⟩) hHeld ?_ ?_
        rotate_left
        · rintro w' ⟨s0, s1, s2, s3, s4, s5, s6, s7⟩
          go_simp
          with_reducible rfl
        rotate_left
        · simp only [Act.put, List.setIfInBounds_toArray, List.set_cons_zero, List.set_cons_succ, i64_w, i32_w]
          rfl
        refine one_ (i := 9) (N := some 63) #[true, true, true, true, true, true, true, true, true, true, false, false, false, false] rfl rfl (by kernel_rfl) (by decide) (fun K hK => ?_)
        refine goes_ Try.func16 (by kernel_rfl) rfl #[.agg #[.string t.f0, .string t.f1, .string t.f2]] (by rfl) rfl rfl (by (try simp only [List.map_toArray, List.map_cons, List.map_nil]); first | done | rfl) ?_
        refine (Q44.secateurref25_Ret.calls t.f0 t.f1 t.f2 2 t.f0 t.f1 t.f2 0 ⟨#[]⟩ ⟨#[]⟩ ⟨#[]⟩ ⟨#[]⟩ ⟨#[]⟩ 0 ⟨#[]⟩ X rfl).mono ?_
        rintro e w5 ⟨rfl, hb⟩
        refine ⟨_, rfl, ?_⟩
        have xk := blk_below zk hb
        have x0 := (hb.cell (World.block_lt_of_cell? _ _ z0)).trans z0
        have x1 := (hb.cell (World.block_lt_of_cell? _ _ z1)).trans z1
        have x2 := (hb.cell (World.block_lt_of_cell? _ _ z2)).trans z2
        have x3 := (hb.cell (World.block_lt_of_cell? _ _ z3)).trans z3
        have x4 := (hb.cell (World.block_lt_of_cell? _ _ z4)).trans z4
        have x5 := (hb.cell (World.block_lt_of_cell? _ _ z5)).trans z5
        have x6 := (hb.cell (World.block_lt_of_cell? _ _ z6)).trans z6
        have HR5 := Aside0.mk (Kd.R_below HRX.out hb)
        have HB5 := Aside0.mk (HBX.out.trans (hb.mono HSX.out))
        have HS5 := Aside0.mk (Nat.le_trans HSX.out hb.size)
        clear hb
        refine hK.out _ _ ⟨xk, x0, x1, x2, x3, x4, x5, x6⟩ (fun hHeld => ?_)
        clear hK K
        refine norm_ (a' := ?_) ?_ ?_
        rotate_left
        · show Act.put _ (some 63) _ = _
          simp only [Act.put, List.setIfInBounds_toArray, List.set_cons_zero, List.set_cons_succ, i64_w, i32_w]
          rfl
        refine one_ (i := 10) (N := some 64) #[true, true, true, true, true, true, true, true, true, true, true, false, false, false] rfl rfl (by kernel_rfl) (by decide) (fun K hK => ?_)
        refine goes_ Try.func39 (by kernel_rfl) rfl #[.agg #[.string c.f4.f0.f0, .string c.f4.f0.f1, .string c.f4.f0.f2], .int .i64 c.f1, .agg #[.int .i64 c.f2.f0, .string c.f2.f1.f0, .string c.f2.f1.f1, .string c.f2.f1.f2, .int .i64 c.f2.f2, .string c.f2.f3.f0, .string c.f2.f3.f1, .string c.f2.f4.f0.f0, .string c.f2.f4.f0.f1, .string c.f2.f4.f0.f2, .int .i64 c.f2.f4.f1, .string c.f2.f4.f2], .agg #[.int .i64 2, .string t.f0, .string t.f1, .string t.f2, .int .i64 0, .string ⟨#[]⟩, .string ⟨#[]⟩, .string ⟨#[]⟩, .string ⟨#[]⟩, .string ⟨#[]⟩, .int .i64 0, .string ⟨#[]⟩], .string ⟨#[]⟩] (by rfl) rfl rfl (by (try simp only [List.map_toArray, List.map_cons, List.map_nil]); first | done | rfl) ?_
        refine (ref_flows_ret c t w5).mono ?_
        rintro e w6 ⟨rfl, hb⟩
        refine ⟨_, rfl, ?_⟩
        have ok := blk_below xk hb
        have o0 := (hb.cell (World.block_lt_of_cell? _ _ x0)).trans x0
        have o1 := (hb.cell (World.block_lt_of_cell? _ _ x1)).trans x1
        have o2 := (hb.cell (World.block_lt_of_cell? _ _ x2)).trans x2
        have o3 := (hb.cell (World.block_lt_of_cell? _ _ x3)).trans x3
        have o4 := (hb.cell (World.block_lt_of_cell? _ _ x4)).trans x4
        have o5 := (hb.cell (World.block_lt_of_cell? _ _ x5)).trans x5
        have o6 := (hb.cell (World.block_lt_of_cell? _ _ x6)).trans x6
        have HR6 := Aside0.mk (Kd.R_below HR5.out hb)
        have HB6 := Aside0.mk (HB5.out.trans (hb.mono HS5.out))
        have HS6 := Aside0.mk (Nat.le_trans HS5.out hb.size)
        clear hb
        refine hK.out _ _ ⟨ok, o0, o1, o2, o3, o4, o5, o6⟩ (fun hHeld => ?_)
        clear hK K
        refine norm_ (a' := ?_) ?_ ?_
        rotate_left
        · show Act.put _ (some 64) _ = _
          simp only [Act.put, List.setIfInBounds_toArray, List.set_cons_zero, List.set_cons_succ, i64_w, i32_w]
          rfl
        refine one_ (i := 11) (N := some 65) #[true, true, true, true, true, true, true, true, true, true, true, true, false, false] rfl rfl (by kernel_rfl) (by decide) (fun K hK => ?_)
        refine value_ (w1 := ?_) (v := ?_) (by rfl) rfl ?_ ?_
        rotate_left 2
        · go_simp
          constructor
          · rfl
          · rfl
        refine hK.out _ _ ⟨(blk_alloc ok _), (((below_alloc (Below.refl _ _) _).cell (World.block_lt_of_cell? _ _ o0)).trans o0), (((below_alloc (Below.refl _ _) _).cell (World.block_lt_of_cell? _ _ o1)).trans o1), (((below_alloc (Below.refl _ _) _).cell (World.block_lt_of_cell? _ _ o2)).trans o2), (((below_alloc (Below.refl _ _) _).cell (World.block_lt_of_cell? _ _ o3)).trans o3), (((below_alloc (Below.refl _ _) _).cell (World.block_lt_of_cell? _ _ o4)).trans o4), (((below_alloc (Below.refl _ _) _).cell (World.block_lt_of_cell? _ _ o5)).trans o5), (((below_alloc (Below.refl _ _) _).cell (World.block_lt_of_cell? _ _ o6)).trans o6)⟩ (fun hHeld => ?_)
        clear hK K
        refine norm_ (a' := ?_) ?_ ?_
        rotate_left
        · show Act.put _ (some 65) _ = _
          simp only [Act.put, List.setIfInBounds_toArray, List.set_cons_zero, List.set_cons_succ, i64_w, i32_w]
          rfl
        refine last_ (i := 12) (N := some 66) #[true, true, true, true, true, true, true, true, true, true, true, true, true, false] rfl rfl (by kernel_rfl) (by decide) (fun K hK => ?_)
        refine Kd.R_append_step k60 (w0 := W2) (w.heap.size + 2) (by rfl) _ _ 62 60 _ 544 rfl Try.underlying62 cons_info rfl (by decide) (by decide) u5 (passFrom 0 c t i) (passRet c t) ((.int .i64 2) :: (.int .i64 c.f1) :: (.int .i64 c.f2.f0) :: (.string c.f2.f1.f0) :: (.string c.f2.f1.f1) :: (.string c.f2.f1.f2) :: (.int .i64 c.f2.f2) :: (.string c.f2.f3.f0) :: [.string c.f2.f3.f1, .string c.f2.f4.f0.f0, .string c.f2.f4.f0.f1, .string c.f2.f4.f0.f2, .int .i64 c.f2.f4.f1, .string c.f2.f4.f2, .int .i64 2, .string t.f0, .string t.f1, .string t.f2, .int .i64 0, .string ⟨#[]⟩, .string ⟨#[]⟩, .string ⟨#[]⟩, .string ⟨#[]⟩, .string ⟨#[]⟩, .int .i64 0, .string ⟨#[]⟩, .string c.f4.f0.f0, .string c.f4.f0.f1, .string c.f4.f0.f2, .int .i64 0, .string ⟨#[]⟩, .string ⟨#[]⟩, .string ⟨#[]⟩, .string ⟨#[]⟩, .string ⟨#[]⟩, .string ⟨#[]⟩, .string ⟨#[]⟩, .slice none 0 0]) (fun _ => True) (fun _ => False) rfl (by rfl) (k60_mkM _ _ _ (passRet c t) (v37 := .slice none 0 0) (Kd.R_nil _ _ _ _ _)) (fun _ hk => hk.elim) (fun _ _ => trivial) HR6.out HB6.out HS6.out (by have := HLI.out; omega) ?_
        intro v' w9 hR9 hB9 hg9 hat9
        obtain ⟨Av, nv, cv9, hv⟩ : ∃ A n c, v' = Value.slice A n c := by obtain ⟨A, c, e⟩ := Kd.R_slice hR9; exact ⟨A, _, c, e⟩
        subst hv
        have HR9 := Aside0.mk hR9
        have HB9 := Aside0.mk hB9
        clear hR9 hB9 hg9 hat9
        refine hK.out _ _ ?_
        clear hK K
        refine norm_ (a' := ?_) ?_ ?_
        rotate_left
        · show Act.put _ (some 66) _ = _
          simp only [Act.put, List.setIfInBounds_toArray, List.set_cons_zero, List.set_cons_succ, i64_w, i32_w]
          rfl
        refine pure_ (i := 13) (N := some 5) (v := ?_) (a' := ?_) #[true, true, true, true, true, true, true, true, true, true, true, true, true, true] rfl rfl (by kernel_rfl) (fun _ _ _ h => h) (Or.inl ⟨by rfl, ?_⟩) ?_ ?_
        rotate_left
        · intro w'
          go_simp
          with_reducible rfl
        rotate_left
        · simp only [Act.put, List.setIfInBounds_toArray, List.set_cons_zero, List.set_cons_succ, i64_w, i32_w]
          rfl
        refine done_ (by kernel_rfl) ?_
        have HFIN := Aside0.mk (Kd.R_lower HR9.out (show w.heap.size ≤ w.heap.size + 2 by omega))
        have HBG := Aside0.mk (HAB.out.trans (HB9.out.mono (show w.heap.size ≤ w.heap.size + 2 by omega)))
        go_wp2_with fail
        exact bodyPost_ret (results_tmp rfl _ _ _) rfl ⟨_, rfl, by rw [passList_some HT.out, ← HNN.out]; exact HFIN.out, HBG.out⟩
set_option maxHeartbeats 64000000 in
theorem ref_pass10 (c : S60) (A : Option Addr) (c0 : Nat) (t : S25) (w : World) (hk : c.f0 = 10) (hC : Kd.C (Kd.int .i64) w A c.f8.length c.f8) (hc : c.f8.length ≤ c0) (hlen : c.f8.length + 2 ≤ 1048576) :
    Calls Try.prog 25 #[.agg (List.toArray ((.int .i64 c.f0) :: (.int .i64 c.f1) :: (.int .i64 c.f2.f0) :: (.string c.f2.f1.f0) :: (.string c.f2.f1.f1) :: (.string c.f2.f1.f2) :: (.int .i64 c.f2.f2) :: (.string c.f2.f3.f0) :: [.string c.f2.f3.f1, .string c.f2.f4.f0.f0, .string c.f2.f4.f0.f1, .string c.f2.f4.f0.f2, .int .i64 c.f2.f4.f1, .string c.f2.f4.f2, .int .i64 c.f3.f0, .string c.f3.f1.f0, .string c.f3.f1.f1, .string c.f3.f1.f2, .int .i64 c.f3.f2, .string c.f3.f3.f0, .string c.f3.f3.f1, .string c.f3.f4.f0.f0, .string c.f3.f4.f0.f1, .string c.f3.f4.f0.f2, .int .i64 c.f3.f4.f1, .string c.f3.f4.f2, .string c.f4.f0.f0, .string c.f4.f0.f1, .string c.f4.f0.f2, .int .i64 c.f4.f1, .string c.f4.f2, .string c.f5.f0, .string c.f5.f1, .string c.f6, .string c.f7.f0, .string c.f7.f1, .string c.f7.f2, .slice A c.f8.length c0])), .agg #[.string t.f0, .string t.f1, .string t.f2]] w fun e w' => ∃ v', e = .returned v' ∧ Kd.R k60 60 w' w.heap.size (fun _ => True) v' (passList 1 c t) ∧ Below w.heap.size w w' := by
  have hab := below_alloc (below_alloc (Below.refl w.heap.size w) (Obj.cells (List.toArray ((.int .i64 c.f0) :: (.int .i64 c.f1) :: (.int .i64 c.f2.f0) :: (.string c.f2.f1.f0) :: (.string c.f2.f1.f1) :: (.string c.f2.f1.f2) :: (.int .i64 c.f2.f2) :: (.string c.f2.f3.f0) :: [.string c.f2.f3.f1, .string c.f2.f4.f0.f0, .string c.f2.f4.f0.f1, .string c.f2.f4.f0.f2, .int .i64 c.f2.f4.f1, .string c.f2.f4.f2, .int .i64 c.f3.f0, .string c.f3.f1.f0, .string c.f3.f1.f1, .string c.f3.f1.f2, .int .i64 c.f3.f2, .string c.f3.f3.f0, .string c.f3.f3.f1, .string c.f3.f4.f0.f0, .string c.f3.f4.f0.f1, .string c.f3.f4.f0.f2, .int .i64 c.f3.f4.f1, .string c.f3.f4.f2, .string c.f4.f0.f0, .string c.f4.f0.f1, .string c.f4.f0.f2, .int .i64 c.f4.f1, .string c.f4.f2, .string c.f5.f0, .string c.f5.f1, .string c.f6, .string c.f7.f0, .string c.f7.f1, .string c.f7.f2, .slice A c.f8.length c0])) 60)) (Obj.cells #[.string t.f0, .string t.f1, .string t.f2] 25)
  have h0 := blk_alloc (World.alloc_heap_new w (Obj.cells (List.toArray ((.int .i64 c.f0) :: (.int .i64 c.f1) :: (.int .i64 c.f2.f0) :: (.string c.f2.f1.f0) :: (.string c.f2.f1.f1) :: (.string c.f2.f1.f2) :: (.int .i64 c.f2.f2) :: (.string c.f2.f3.f0) :: [.string c.f2.f3.f1, .string c.f2.f4.f0.f0, .string c.f2.f4.f0.f1, .string c.f2.f4.f0.f2, .int .i64 c.f2.f4.f1, .string c.f2.f4.f2, .int .i64 c.f3.f0, .string c.f3.f1.f0, .string c.f3.f1.f1, .string c.f3.f1.f2, .int .i64 c.f3.f2, .string c.f3.f3.f0, .string c.f3.f3.f1, .string c.f3.f4.f0.f0, .string c.f3.f4.f0.f1, .string c.f3.f4.f0.f2, .int .i64 c.f3.f4.f1, .string c.f3.f4.f2, .string c.f4.f0.f0, .string c.f4.f0.f1, .string c.f4.f0.f2, .int .i64 c.f4.f1, .string c.f4.f2, .string c.f5.f0, .string c.f5.f1, .string c.f6, .string c.f7.f0, .string c.f7.f1, .string c.f7.f2, .slice A c.f8.length c0])) 60)) (Obj.cells #[.string t.f0, .string t.f1, .string t.f2] 25)
  have h1 := World.alloc_heap_new (w.alloc (Obj.cells (List.toArray ((.int .i64 c.f0) :: (.int .i64 c.f1) :: (.int .i64 c.f2.f0) :: (.string c.f2.f1.f0) :: (.string c.f2.f1.f1) :: (.string c.f2.f1.f2) :: (.int .i64 c.f2.f2) :: (.string c.f2.f3.f0) :: [.string c.f2.f3.f1, .string c.f2.f4.f0.f0, .string c.f2.f4.f0.f1, .string c.f2.f4.f0.f2, .int .i64 c.f2.f4.f1, .string c.f2.f4.f2, .int .i64 c.f3.f0, .string c.f3.f1.f0, .string c.f3.f1.f1, .string c.f3.f1.f2, .int .i64 c.f3.f2, .string c.f3.f3.f0, .string c.f3.f3.f1, .string c.f3.f4.f0.f0, .string c.f3.f4.f0.f1, .string c.f3.f4.f0.f2, .int .i64 c.f3.f4.f1, .string c.f3.f4.f2, .string c.f4.f0.f0, .string c.f4.f0.f1, .string c.f4.f0.f2, .int .i64 c.f4.f1, .string c.f4.f2, .string c.f5.f0, .string c.f5.f1, .string c.f6, .string c.f7.f0, .string c.f7.f1, .string c.f7.f2, .slice A c.f8.length c0])) 60)) (Obj.cells #[.string t.f0, .string t.f1, .string t.f2] 25)
  rw [World.size_alloc] at h1
  have k10 : (c.f0 != 10) = false := by rw [hk]; rfl
  have k9 : (c.f0 != 9) = true := by rw [hk]; rfl
  have l9 : (c.f0 == 9) = false := by rw [hk]; rfl
  have HCA := Aside0.mk hC
  have HLN := Aside0.mk hlen
  obtain ⟨n, hn⟩ : ∃ n, n = c.f8.length := ⟨_, rfl⟩
  have e0 := blk_cell h0 0
  have H0 := Aside0.mk h0
  have H1 := Aside0.mk h1
  have HAB := Aside0.mk hab
  have HSZ : Aside0 (((w.alloc (Obj.cells (List.toArray ((.int .i64 c.f0) :: (.int .i64 c.f1) :: (.int .i64 c.f2.f0) :: (.string c.f2.f1.f0) :: (.string c.f2.f1.f1) :: (.string c.f2.f1.f2) :: (.int .i64 c.f2.f2) :: (.string c.f2.f3.f0) :: [.string c.f2.f3.f1, .string c.f2.f4.f0.f0, .string c.f2.f4.f0.f1, .string c.f2.f4.f0.f2, .int .i64 c.f2.f4.f1, .string c.f2.f4.f2, .int .i64 c.f3.f0, .string c.f3.f1.f0, .string c.f3.f1.f1, .string c.f3.f1.f2, .int .i64 c.f3.f2, .string c.f3.f3.f0, .string c.f3.f3.f1, .string c.f3.f4.f0.f0, .string c.f3.f4.f0.f1, .string c.f3.f4.f0.f2, .int .i64 c.f3.f4.f1, .string c.f3.f4.f2, .string c.f4.f0.f0, .string c.f4.f0.f1, .string c.f4.f0.f2, .int .i64 c.f4.f1, .string c.f4.f2, .string c.f5.f0, .string c.f5.f1, .string c.f6, .string c.f7.f0, .string c.f7.f1, .string c.f7.f2, .slice A c.f8.length c0])) 60)).alloc (Obj.cells #[.string t.f0, .string t.f1, .string t.f2] 25)).heap.size = w.heap.size + 2) := ⟨by rw [World.size_alloc, World.size_alloc]⟩
  clear hk hC h0 h1 hlen hab
  go_enter Try.func25, Try.ntmps25
  go_wp2_with fail
  clear e0
  generalize ((w.alloc (Obj.cells (List.toArray ((.int .i64 c.f0) :: (.int .i64 c.f1) :: (.int .i64 c.f2.f0) :: (.string c.f2.f1.f0) :: (.string c.f2.f1.f1) :: (.string c.f2.f1.f2) :: (.int .i64 c.f2.f2) :: (.string c.f2.f3.f0) :: [.string c.f2.f3.f1, .string c.f2.f4.f0.f0, .string c.f2.f4.f0.f1, .string c.f2.f4.f0.f2, .int .i64 c.f2.f4.f1, .string c.f2.f4.f2, .int .i64 c.f3.f0, .string c.f3.f1.f0, .string c.f3.f1.f1, .string c.f3.f1.f2, .int .i64 c.f3.f2, .string c.f3.f3.f0, .string c.f3.f3.f1, .string c.f3.f4.f0.f0, .string c.f3.f4.f0.f1, .string c.f3.f4.f0.f2, .int .i64 c.f3.f4.f1, .string c.f3.f4.f2, .string c.f4.f0.f0, .string c.f4.f0.f1, .string c.f4.f0.f2, .int .i64 c.f4.f1, .string c.f4.f2, .string c.f5.f0, .string c.f5.f1, .string c.f6, .string c.f7.f0, .string c.f7.f1, .string c.f7.f2, .slice A c.f8.length c0])) 60)).alloc (Obj.cells #[.string t.f0, .string t.f1, .string t.f2] 25)) = W2 at H0 H1 HAB HSZ ⊢
  generalize Value.agg (List.toArray ((.int .i64 c.f0) :: (.int .i64 c.f1) :: (.int .i64 c.f2.f0) :: (.string c.f2.f1.f0) :: (.string c.f2.f1.f1) :: (.string c.f2.f1.f2) :: (.int .i64 c.f2.f2) :: (.string c.f2.f3.f0) :: [.string c.f2.f3.f1, .string c.f2.f4.f0.f0, .string c.f2.f4.f0.f1, .string c.f2.f4.f0.f2, .int .i64 c.f2.f4.f1, .string c.f2.f4.f2, .int .i64 c.f3.f0, .string c.f3.f1.f0, .string c.f3.f1.f1, .string c.f3.f1.f2, .int .i64 c.f3.f2, .string c.f3.f3.f0, .string c.f3.f3.f1, .string c.f3.f4.f0.f0, .string c.f3.f4.f0.f1, .string c.f3.f4.f0.f2, .int .i64 c.f3.f4.f1, .string c.f3.f4.f2, .string c.f4.f0.f0, .string c.f4.f0.f1, .string c.f4.f0.f2, .int .i64 c.f4.f1, .string c.f4.f2, .string c.f5.f0, .string c.f5.f1, .string c.f6, .string c.f7.f0, .string c.f7.f1, .string c.f7.f2, .slice A c.f8.length c0])) = cv
  have HNN := Aside0.mk hn
  clear hn
  go_loopg [5, 6] n (fun kq v5 v6 wr => ∃ i : Nat, v6 = .int .i64 (i : Int) ∧ i + kq = n ∧ Aside0 (Kd.R k60 60 wr (w.heap.size + 2) (fun _ => True) v5 (passFrom 1 c t i)) ∧ Aside0 (Below (w.heap.size + 2) W2 wr))
  case atStart => exact ⟨0, rfl, by omega, ⟨Kd.R_nil _ _ _ _ _⟩, ⟨Below.refl _ _⟩⟩
  case round =>
    obtain ⟨i, rfl, hi, HM, HBL⟩ := hrel
    have b0 := (HBL.out.block w.heap.size (by omega)).trans H0.out
    have b1 := (HBL.out.block (w.heap.size + 1) (by omega)).trans H1.out
    have p37 : wr.cell? ⟨w.heap.size, 37, none⟩ = some (.slice A n c0) := by rw [HNN.out]; exact blk_cell b0 37
    by_cases hlt : i < n
    · have hltX : i < c.f8.length := by rw [← HNN.out]; exact hlt
      have hd : decide ((i : Int) < (n : Int)) = true := decide_eq_true (by omega)
      have hi0 : (0 : Int) ≤ (i : Int) := by omega
      have hi1 : (i : Int) < (n : Int) := by omega
      have HLT := Aside0.mk hlt
      have HLE : Aside0 (i ≤ n) := ⟨by omega⟩
      by_cases hge : 0 < i
      · have hg0 : decide ((i : Int) > 0) = true := decide_eq_true (by omega)
        have hps := hge
        replace hge : 1 ≤ i := by omega
        have HRX : Aside0 (Kd.R k60 60 wr.drew (w.heap.size + 2) (fun _ => True) u5 (passFrom 1 c t i)) := ⟨by apply Kd.R_drew; exact HM.out⟩
        have HBX : Aside0 (Below (w.heap.size + 2) W2 wr.drew) := ⟨HBL.out.trans (below_drew1 (Below.refl _ _))⟩
        have HSX : Aside0 (w.heap.size + 2 ≤ wr.drew.heap.size) := ⟨Nat.le_trans (by have := HSZ.out; omega) HBX.out.size⟩
        have HLI : Aside0 (((passFrom 1 c t i).length + 1) * 544 ≤ 140737488355328) := ⟨by have h1 := passFrom_len 1 c t i; have h2 := HLN.out; have h3 := HNN.out; have h4 := HLE.out; omega⟩
        have HCR := Aside0.mk (Kd.C_below HCA.out ((HAB.out).trans (HBL.out.mono (by omega))))
        obtain ⟨ad, hA, hcell⟩ := int_at HCR.out i hltX
        obtain ⟨x, hx⟩ : ∃ x, c.f8.getD i 0 = x := ⟨_, rfl⟩
        rw [hx] at hcell
        subst hA
        have z0 : wr.drew.cell? ⟨w.heap.size, 26, none⟩ = some (.string c.f4.f0.f0) := blk_cell b0 26
        have z1 : wr.drew.cell? ⟨w.heap.size, 27, none⟩ = some (.string c.f4.f0.f1) := blk_cell b0 27
        have z2 : wr.drew.cell? ⟨w.heap.size, 28, none⟩ = some (.string c.f4.f0.f2) := blk_cell b0 28
        have z3 : wr.drew.cell? ⟨w.heap.size, 1, none⟩ = some (.int .i64 c.f1) := blk_cell b0 1
        have z4 : wr.drew.cell? ⟨w.heap.size + 1, 0, none⟩ = some (.string t.f0) := blk_cell b1 0
        have z5 : wr.drew.cell? ⟨w.heap.size + 1, 1, none⟩ = some (.string t.f1) := blk_cell b1 1
        have z6 : wr.drew.cell? ⟨w.heap.size + 1, 2, none⟩ = some (.string t.f2) := blk_cell b1 2
        have z7 : wr.drew.cell? ⟨w.heap.size, 37, none⟩ = some (.slice (some ad) n c0) := by rw [HNN.out]; exact blk_cell b0 37
        have z8 : wr.drew.cell? (ad.add i) = some (.int .i64 x) := hcell
        have HX := Aside0.mk hx
        have HGE := Aside0.mk hge
        clear b0 b1 hltX hcell hx
        go_wp2_with fail
        refine start_ (n := 22) (S := fun w' => w'.cell? ⟨w.heap.size, 26, none⟩ = some (.string c.f4.f0.f0) ∧ w'.cell? ⟨w.heap.size, 27, none⟩ = some (.string c.f4.f0.f1) ∧ w'.cell? ⟨w.heap.size, 28, none⟩ = some (.string c.f4.f0.f2) ∧ w'.cell? ⟨w.heap.size, 1, none⟩ = some (.int .i64 c.f1) ∧ w'.cell? ⟨w.heap.size + 1, 0, none⟩ = some (.string t.f0) ∧ w'.cell? ⟨w.heap.size + 1, 1, none⟩ = some (.string t.f1) ∧ w'.cell? ⟨w.heap.size + 1, 2, none⟩ = some (.string t.f2) ∧ w'.cell? ⟨w.heap.size, 37, none⟩ = some (.slice (some ad) n c0) ∧ w'.cell? (ad.add i) = some (.int .i64 x)) (ds := [20]) #[false, false, false, false, false, false, false, false, false, false, false, false, false, false, false, false, false, false, false, false, false, false] (by kernel_rfl) rfl rfl ⟨z0, z1, z2, z3, z4, z5, z6, z7, z8⟩ (fun hHeld => ?_)
        generalize wr.drew = X at HRX HBX HSX z0 z1 z2 z3 z4 z5 z6 z7 z8 hHeld ⊢
        refine pure_ (i := 0) (N := some 29) (v := ?_) (a' := ?_) #[true, false, false, false, false, false, false, false, false, false, false, false, false, false, false, false, false, false, false, false, false, false] rfl rfl (by kernel_rfl) (fun _ _ _ h => h) (Or.inl ⟨by rfl, ?_⟩) ?_ ?_
        rotate_left
        · intro w'
          go_simp
          with_reducible rfl
        rotate_left
        · simp only [Act.put, List.setIfInBounds_toArray, List.set_cons_zero, List.set_cons_succ, i64_w, i32_w]
          rfl
        refine pure_ (i := 1) (N := some 30) (v := ?_) (a' := ?_) #[true, true, false, false, false, false, false, false, false, false, false, false, false, false, false, false, false, false, false, false, false, false] rfl rfl (by kernel_rfl) (fun _ _ _ h => h) (Or.inl ⟨by rfl, ?_⟩) ?_ ?_
        rotate_left
        · intro w'
          go_simp
          with_reducible rfl
        rotate_left
        · simp only [Act.put, List.setIfInBounds_toArray, List.set_cons_zero, List.set_cons_succ, i64_w, i32_w]
          rfl
        refine pure_ (i := 2) (N := some 31) (v := ?_) (a' := ?_) #[true, true, true, false, false, false, false, false, false, false, false, false, false, false, false, false, false, false, false, false, false, false] rfl rfl (by kernel_rfl) (fun _ _ _ h => h) (Or.inl ⟨by rfl, ?_⟩) ?_ ?_
        rotate_left
        · intro w'
          go_simp
          with_reducible rfl
        rotate_left
        · simp only [Act.put, List.setIfInBounds_toArray, List.set_cons_zero, List.set_cons_succ, i64_w, i32_w]
          rfl
        refine pure_ (i := 4) (N := some 33) (v := ?_) (a' := ?_) #[true, true, true, false, true, false, false, false, false, false, false, false, false, false, false, false, false, false, false, false, false, false] rfl rfl (by kernel_rfl) (fun _ _ _ h => h) (Or.inl ⟨by rfl, ?_⟩) ?_ ?_
        rotate_left
        · intro w'
          go_simp
          with_reducible rfl
        rotate_left
        · simp only [Act.put, List.setIfInBounds_toArray, List.set_cons_zero, List.set_cons_succ, i64_w, i32_w]
          rfl
        refine pure_ (i := 7) (N := some 36) (v := ?_) (a' := ?_) #[true, true, true, false, true, false, false, true, false, false, false, false, false, false, false, false, false, false, false, false, false, false] rfl rfl (by kernel_rfl) (fun _ _ _ h => h) (Or.inl ⟨by rfl, ?_⟩) ?_ ?_
        rotate_left
        · intro w'
          go_simp
          with_reducible rfl
        rotate_left
        · simp only [Act.put, List.setIfInBounds_toArray, List.set_cons_zero, List.set_cons_succ, i64_w, i32_w]
          rfl
        refine pure_ (i := 9) (N := some 38) (v := ?_) (a' := ?_) #[true, true, true, false, true, false, false, true, false, true, false, false, false, false, false, false, false, false, false, false, false, false] rfl rfl (by kernel_rfl) (fun _ _ _ h => h) (Or.inl ⟨by rfl, ?_⟩) ?_ ?_
        rotate_left
        · intro w'
          go_simp
          with_reducible rfl
        rotate_left
        · simp only [Act.put, List.setIfInBounds_toArray, List.set_cons_zero, List.set_cons_succ, i64_w, i32_w]
          rfl
        refine pure_ (i := 10) (N := some 39) (v := ?_) (a' := ?_) #[true, true, true, false, true, false, false, true, false, true, true, false, false, false, false, false, false, false, false, false, false, false] rfl rfl (by kernel_rfl) (fun _ _ _ h => h) (Or.inl ⟨by rfl, ?_⟩) ?_ ?_
        rotate_left
        · intro w'
          go_simp
          with_reducible rfl
        rotate_left
        · simp only [Act.put, List.setIfInBounds_toArray, List.set_cons_zero, List.set_cons_succ, i64_w, i32_w]
          rfl
        refine pure_ (i := 12) (N := some 41) (v := ?_) (a' := ?_) #[true, true, true, false, true, false, false, true, false, true, true, false, true, false, false, false, false, false, false, false, false, false] rfl rfl (by kernel_rfl) (fun _ _ _ h => h) (Or.inl ⟨by rfl, ?_⟩) ?_ ?_
        rotate_left
        · intro w'
          go_simp
          with_reducible rfl
        rotate_left
        · simp only [Act.put, List.setIfInBounds_toArray, List.set_cons_zero, List.set_cons_succ, i64_w, i32_w]
          rfl
        refine pure_ (i := 14) (N := some 43) (v := ?_) (a' := ?_) #[true, true, true, false, true, false, false, true, false, true, true, false, true, false, true, false, false, false, false, false, false, false] rfl rfl (by kernel_rfl) (fun _ _ _ h => h) (Or.inl ⟨by rfl, ?_⟩) ?_ ?_
        rotate_left
        · intro w'
          go_simp
          with_reducible rfl
        rotate_left
        · simp only [Act.put, List.setIfInBounds_toArray, List.set_cons_zero, List.set_cons_succ, i64_w, i32_w]
          rfl
        refine take_ (i := 3) (N := some 32) (v := ?_) (a' := ?_) #[true, true, true, true, true, false, false, true, false, true, true, false, true, false, true, false, false, false, false, false, false, false] rfl rfl (by kernel_rfl) (fun _ _ _ h => h) (Or.inl ⟨by rfl, ?_⟩) hHeld ?_ ?_
        rotate_left
        · rintro w' ⟨s0, s1, s2, s3, s4, s5, s6, s7, s8⟩
          go_simp
          with_reducible rfl
        rotate_left
        · simp only [Act.put, List.setIfInBounds_toArray, List.set_cons_zero, List.set_cons_succ, i64_w, i32_w]
          rfl
        refine take_ (i := 5) (N := some 34) (v := ?_) (a' := ?_) #[true, true, true, true, true, true, false, true, false, true, true, false, true, false, true, false, false, false, false, false, false, false] rfl rfl (by kernel_rfl) (fun _ _ _ h => h) (Or.inl ⟨by rfl, ?_⟩) hHeld ?_ ?_
        rotate_left
        · rintro w' ⟨s0, s1, s2, s3, s4, s5, s6, s7, s8⟩
          go_simp
          with_reducible rfl
        rotate_left
        · simp only [Act.put, List.setIfInBounds_toArray, List.set_cons_zero, List.set_cons_succ, i64_w, i32_w]
          rfl
        refine take_ (i := 6) (N := some 35) (v := ?_) (a' := ?_) #[true, true, true, true, true, true, true, true, false, true, true, false, true, false, true, false, false, false, false, false, false, false] rfl rfl (by kernel_rfl) (fun _ _ _ h => h) (Or.inl ⟨by rfl, ?_⟩) hHeld ?_ ?_
        rotate_left
        · rintro w' ⟨s0, s1, s2, s3, s4, s5, s6, s7, s8⟩
          go_simp
          with_reducible rfl
        rotate_left
        · simp only [Act.put, List.setIfInBounds_toArray, List.set_cons_zero, List.set_cons_succ, i64_w, i32_w]
          rfl
        refine take_ (i := 11) (N := some 40) (v := ?_) (a' := ?_) #[true, true, true, true, true, true, true, true, false, true, true, true, true, false, true, false, false, false, false, false, false, false] rfl rfl (by kernel_rfl) (fun _ _ _ h => h) (Or.inl ⟨by rfl, ?_⟩) hHeld ?_ ?_
        rotate_left
        · rintro w' ⟨s0, s1, s2, s3, s4, s5, s6, s7, s8⟩
          go_simp
          with_reducible rfl
        rotate_left
        · simp only [Act.put, List.setIfInBounds_toArray, List.set_cons_zero, List.set_cons_succ, i64_w, i32_w]
          rfl
        refine take_ (i := 13) (N := some 42) (v := ?_) (a' := ?_) #[true, true, true, true, true, true, true, true, false, true, true, true, true, true, true, false, false, false, false, false, false, false] rfl rfl (by kernel_rfl) (fun _ _ _ h => h) (Or.inl ⟨by rfl, ?_⟩) hHeld ?_ ?_
        rotate_left
        · rintro w' ⟨s0, s1, s2, s3, s4, s5, s6, s7, s8⟩
          go_simp
          with_reducible rfl
        rotate_left
        · simp only [Act.put, List.setIfInBounds_toArray, List.set_cons_zero, List.set_cons_succ, i64_w, i32_w]
          rfl
        refine pure_ (i := 15) (N := some 44) (v := ?_) (a' := ?_) #[true, true, true, true, true, true, true, true, false, true, true, true, true, true, true, true, false, false, false, false, false, false] rfl rfl (by kernel_rfl) (fun _ _ _ h => h) (Or.inl ⟨by rfl, ?_⟩) ?_ ?_
        rotate_left
        · intro w'
          go_simp
          with_reducible rfl
        rotate_left
        · simp only [Act.put, List.setIfInBounds_toArray, List.set_cons_zero, List.set_cons_succ, i64_w, i32_w]
          rfl
        refine take_ (i := 16) (N := some 45) (v := ?_) (a' := ?_) #[true, true, true, true, true, true, true, true, false, true, true, true, true, true, true, true, true, false, false, false, false, false] rfl rfl (by kernel_rfl) (fun _ _ _ h => h) (Or.inl ⟨by rfl, ?_⟩) hHeld ?_ ?_
        rotate_left
        · rintro w' ⟨s0, s1, s2, s3, s4, s5, s6, s7, s8⟩
          go_simp
          with_reducible rfl
        rotate_left
        · simp only [Act.put, List.setIfInBounds_toArray, List.set_cons_zero, List.set_cons_succ, i64_w, i32_w]
          rfl
        refine one_ (i := 8) (N := some 37) #[true, true, true, true, true, true, true, true, true, true, true, true, true, true, true, true, true, false, false, false, false, false] rfl rfl (by kernel_rfl) (by decide) (fun K hK => ?_)
        refine goes_ Try.func14 (by kernel_rfl) rfl #[.agg #[.string t.f0, .string t.f1, .string t.f2], .int .i64 (i : Int)] (by rfl) rfl rfl (by (try simp only [List.map_toArray, List.map_cons, List.map_nil]); first | done | rfl) ?_
        refine (Q44.secateurref25_Reg.calls t.f0 t.f1 t.f2 (i : Int) 1 t.f0 t.f1 t.f2 (i : Int) ⟨#[]⟩ ⟨#[]⟩ ⟨#[]⟩ ⟨#[]⟩ ⟨#[]⟩ 0 ⟨#[]⟩ X rfl).mono ?_
        rintro e w4 ⟨rfl, hb⟩
        refine ⟨_, rfl, ?_⟩
        have y0 := (hb.cell (World.block_lt_of_cell? _ _ z0)).trans z0
        have y1 := (hb.cell (World.block_lt_of_cell? _ _ z1)).trans z1
        have y2 := (hb.cell (World.block_lt_of_cell? _ _ z2)).trans z2
        have y3 := (hb.cell (World.block_lt_of_cell? _ _ z3)).trans z3
        have y4 := (hb.cell (World.block_lt_of_cell? _ _ z4)).trans z4
        have y5 := (hb.cell (World.block_lt_of_cell? _ _ z5)).trans z5
        have y6 := (hb.cell (World.block_lt_of_cell? _ _ z6)).trans z6
        have y7 := (hb.cell (World.block_lt_of_cell? _ _ z7)).trans z7
        have y8 := (hb.cell (World.block_lt_of_cell? _ _ z8)).trans z8
        have HR4 := Aside0.mk (Kd.R_below HRX.out hb)
        have HB4 := Aside0.mk (HBX.out.trans (hb.mono HSX.out))
        have HS4 := Aside0.mk (Nat.le_trans HSX.out hb.size)
        clear hb
        refine hK.out _ _ ⟨y0, y1, y2, y3, y4, y5, y6, y7, y8⟩ (fun hHeld => ?_)
        clear hK K
        refine norm_ (a' := ?_) ?_ ?_
        rotate_left
        · show Act.put _ (some 37) _ = _
          simp only [Act.put, List.setIfInBounds_toArray, List.set_cons_zero, List.set_cons_succ, i64_w, i32_w]
          rfl
        refine one_ (i := 17) (N := some 46) #[true, true, true, true, true, true, true, true, true, true, true, true, true, true, true, true, true, true, false, false, false, false] rfl rfl (by kernel_rfl) (by decide) (fun K hK => ?_)
        refine goes_ Try.func14 (by kernel_rfl) rfl #[.agg #[.string c.f4.f0.f0, .string c.f4.f0.f1, .string c.f4.f0.f2], .int .i64 x] (by rfl) rfl rfl (by (try simp only [List.map_toArray, List.map_cons, List.map_nil]); first | done | rfl) ?_
        refine (Q44.secateurref25_Reg.calls c.f4.f0.f0 c.f4.f0.f1 c.f4.f0.f2 x 1 c.f4.f0.f0 c.f4.f0.f1 c.f4.f0.f2 x ⟨#[]⟩ ⟨#[]⟩ ⟨#[]⟩ ⟨#[]⟩ ⟨#[]⟩ 0 ⟨#[]⟩ w4 rfl).mono ?_
        rintro e w5 ⟨rfl, hb⟩
        refine ⟨_, rfl, ?_⟩
        have x0 := (hb.cell (World.block_lt_of_cell? _ _ y0)).trans y0
        have x1 := (hb.cell (World.block_lt_of_cell? _ _ y1)).trans y1
        have x2 := (hb.cell (World.block_lt_of_cell? _ _ y2)).trans y2
        have x3 := (hb.cell (World.block_lt_of_cell? _ _ y3)).trans y3
        have x4 := (hb.cell (World.block_lt_of_cell? _ _ y4)).trans y4
        have x5 := (hb.cell (World.block_lt_of_cell? _ _ y5)).trans y5
        have x6 := (hb.cell (World.block_lt_of_cell? _ _ y6)).trans y6
        have x7 := (hb.cell (World.block_lt_of_cell? _ _ y7)).trans y7
        have x8 := (hb.cell (World.block_lt_of_cell? _ _ y8)).trans y8
        have HR5 := Aside0.mk (Kd.R_below HR4.out hb)
        have HB5 := Aside0.mk (HB4.out.trans (hb.mono HS4.out))
        have HS5 := Aside0.mk (Nat.le_trans HS4.out hb.size)
        clear hb
        refine hK.out _ _ ⟨x0, x1, x2, x3, x4, x5, x6, x7, x8⟩ (fun hHeld => ?_)
        clear hK K
        refine norm_ (a' := ?_) ?_ ?_
        rotate_left
        · show Act.put _ (some 46) _ = _
          simp only [Act.put, List.setIfInBounds_toArray, List.set_cons_zero, List.set_cons_succ, i64_w, i32_w]
          rfl
        refine one_ (i := 18) (N := some 47) #[true, true, true, true, true, true, true, true, true, true, true, true, true, true, true, true, true, true, true, false, false, false] rfl rfl (by kernel_rfl) (by decide) (fun K hK => ?_)
        refine goes_ Try.func39 (by kernel_rfl) rfl #[.agg #[.string c.f4.f0.f0, .string c.f4.f0.f1, .string c.f4.f0.f2], .int .i64 c.f1, .agg #[.int .i64 1, .string t.f0, .string t.f1, .string t.f2, .int .i64 (i : Int), .string ⟨#[]⟩, .string ⟨#[]⟩, .string ⟨#[]⟩, .string ⟨#[]⟩, .string ⟨#[]⟩, .int .i64 0, .string ⟨#[]⟩], .agg #[.int .i64 1, .string c.f4.f0.f0, .string c.f4.f0.f1, .string c.f4.f0.f2, .int .i64 x, .string ⟨#[]⟩, .string ⟨#[]⟩, .string ⟨#[]⟩, .string ⟨#[]⟩, .string ⟨#[]⟩, .int .i64 0, .string ⟨#[]⟩], .string ⟨#[]⟩] (by rfl) rfl rfl (by (try simp only [List.map_toArray, List.map_cons, List.map_nil]); first | done | rfl) ?_
        refine (ref_flows_reg c t (i : Int) x w5).mono ?_
        rintro e w6 ⟨rfl, hb⟩
        refine ⟨_, rfl, ?_⟩
        have o0 := (hb.cell (World.block_lt_of_cell? _ _ x0)).trans x0
        have o1 := (hb.cell (World.block_lt_of_cell? _ _ x1)).trans x1
        have o2 := (hb.cell (World.block_lt_of_cell? _ _ x2)).trans x2
        have o3 := (hb.cell (World.block_lt_of_cell? _ _ x3)).trans x3
        have o4 := (hb.cell (World.block_lt_of_cell? _ _ x4)).trans x4
        have o5 := (hb.cell (World.block_lt_of_cell? _ _ x5)).trans x5
        have o6 := (hb.cell (World.block_lt_of_cell? _ _ x6)).trans x6
        have o7 := (hb.cell (World.block_lt_of_cell? _ _ x7)).trans x7
        have o8 := (hb.cell (World.block_lt_of_cell? _ _ x8)).trans x8
        have HR6 := Aside0.mk (Kd.R_below HR5.out hb)
        have HB6 := Aside0.mk (HB5.out.trans (hb.mono HS5.out))
        have HS6 := Aside0.mk (Nat.le_trans HS5.out hb.size)
        clear hb
        refine hK.out _ _ ⟨o0, o1, o2, o3, o4, o5, o6, o7, o8⟩ (fun hHeld => ?_)
        clear hK K
        refine norm_ (a' := ?_) ?_ ?_
        rotate_left
        · show Act.put _ (some 47) _ = _
          simp only [Act.put, List.setIfInBounds_toArray, List.set_cons_zero, List.set_cons_succ, i64_w, i32_w]
          rfl
        refine one_ (i := 19) (N := some 48) #[true, true, true, true, true, true, true, true, true, true, true, true, true, true, true, true, true, true, true, true, false, false] rfl rfl (by kernel_rfl) (by decide) (fun K hK => ?_)
        refine value_ (w1 := ?_) (v := ?_) (by rfl) rfl ?_ ?_
        rotate_left 2
        · go_simp
          constructor
          · rfl
          · rfl
        refine hK.out _ _ ⟨(((below_alloc (Below.refl _ _) _).cell (World.block_lt_of_cell? _ _ o0)).trans o0), (((below_alloc (Below.refl _ _) _).cell (World.block_lt_of_cell? _ _ o1)).trans o1), (((below_alloc (Below.refl _ _) _).cell (World.block_lt_of_cell? _ _ o2)).trans o2), (((below_alloc (Below.refl _ _) _).cell (World.block_lt_of_cell? _ _ o3)).trans o3), (((below_alloc (Below.refl _ _) _).cell (World.block_lt_of_cell? _ _ o4)).trans o4), (((below_alloc (Below.refl _ _) _).cell (World.block_lt_of_cell? _ _ o5)).trans o5), (((below_alloc (Below.refl _ _) _).cell (World.block_lt_of_cell? _ _ o6)).trans o6), (((below_alloc (Below.refl _ _) _).cell (World.block_lt_of_cell? _ _ o7)).trans o7), (((below_alloc (Below.refl _ _) _).cell (World.block_lt_of_cell? _ _ o8)).trans o8)⟩ (fun hHeld => ?_)
        clear hK K
        refine norm_ (a' := ?_) ?_ ?_
        rotate_left
        · show Act.put _ (some 48) _ = _
          simp only [Act.put, List.setIfInBounds_toArray, List.set_cons_zero, List.set_cons_succ, i64_w, i32_w]
          rfl
        refine last_ (i := 20) (N := some 49) #[true, true, true, true, true, true, true, true, true, true, true, true, true, true, true, true, true, true, true, true, true, false] rfl rfl (by kernel_rfl) (by decide) (fun K hK => ?_)
        refine Kd.R_append_step k60 (w0 := W2) (w.heap.size + 2) (by rfl) _ _ 62 60 _ 544 rfl Try.underlying62 cons_info rfl (by decide) (by decide) u5 (passFrom 1 c t i) (⟨2, c.f1, (⟨1, t, (i : Int), z44, z46⟩ : S50), (⟨1, c.f4.f0, x, z44, z46⟩ : S50), ⟨c.f4.f0, 0, ⟨#[]⟩⟩, z44, ⟨#[]⟩, z25, []⟩ : S60) ((.int .i64 2) :: (.int .i64 c.f1) :: (.int .i64 1) :: (.string t.f0) :: (.string t.f1) :: (.string t.f2) :: (.int .i64 (i : Int)) :: (.string ⟨#[]⟩) :: [.string ⟨#[]⟩, .string ⟨#[]⟩, .string ⟨#[]⟩, .string ⟨#[]⟩, .int .i64 0, .string ⟨#[]⟩, .int .i64 1, .string c.f4.f0.f0, .string c.f4.f0.f1, .string c.f4.f0.f2, .int .i64 x, .string ⟨#[]⟩, .string ⟨#[]⟩, .string ⟨#[]⟩, .string ⟨#[]⟩, .string ⟨#[]⟩, .int .i64 0, .string ⟨#[]⟩, .string c.f4.f0.f0, .string c.f4.f0.f1, .string c.f4.f0.f2, .int .i64 0, .string ⟨#[]⟩, .string ⟨#[]⟩, .string ⟨#[]⟩, .string ⟨#[]⟩, .string ⟨#[]⟩, .string ⟨#[]⟩, .string ⟨#[]⟩, .slice none 0 0]) (fun _ => True) (fun _ => False) rfl (by rfl) (k60_mkM _ _ _ (⟨2, c.f1, (⟨1, t, (i : Int), z44, z46⟩ : S50), (⟨1, c.f4.f0, x, z44, z46⟩ : S50), ⟨c.f4.f0, 0, ⟨#[]⟩⟩, z44, ⟨#[]⟩, z25, []⟩ : S60) (v37 := .slice none 0 0) (Kd.R_nil _ _ _ _ _)) (fun _ hk => hk.elim) (fun _ _ => trivial) HR6.out HB6.out HS6.out (by have := HLI.out; omega) ?_
        intro v' w9 hR9 hB9 hg9 hat9
        obtain ⟨Av, nv, cv9, hv⟩ : ∃ A n c, v' = Value.slice A n c := by obtain ⟨A, c, e⟩ := Kd.R_slice hR9; exact ⟨A, _, c, e⟩
        subst hv
        have HR9 := Aside0.mk hR9
        have HB9 := Aside0.mk hB9
        clear hR9 hB9 hg9 hat9
        refine hK.out _ _ ?_
        clear hK K
        refine norm_ (a' := ?_) ?_ ?_
        rotate_left
        · show Act.put _ (some 49) _ = _
          simp only [Act.put, List.setIfInBounds_toArray, List.set_cons_zero, List.set_cons_succ, i64_w, i32_w]
          rfl
        refine pure_ (i := 21) (N := some 5) (v := ?_) (a' := ?_) #[true, true, true, true, true, true, true, true, true, true, true, true, true, true, true, true, true, true, true, true, true, true] rfl rfl (by kernel_rfl) (fun _ _ _ h => h) (Or.inl ⟨by rfl, ?_⟩) ?_ ?_
        rotate_left
        · intro w'
          go_simp
          with_reducible rfl
        rotate_left
        · simp only [Act.put, List.setIfInBounds_toArray, List.set_cons_zero, List.set_cons_succ, i64_w, i32_w]
          rfl
        refine done_ (by kernel_rfl) ?_
        go_wp2_with fail
        go_roundg (gk - 1)
        case measure => omega
        case rel => exact ⟨i + 1, by first | rw [show wrap64 ((i : Int) + 1) = ((i + 1 : Nat) : Int) from by have h1 := HLN.out; have h2 := HNN.out; have h3 := HLT.out; unfold wrap64; omega] | rfl, by omega, ⟨by rw [passFrom_ge HGE.out]; unfold passL; rw [HX.out]; exact HR9.out⟩, HB9⟩
      · obtain rfl : i = 0 := by omega
        replace hge : ¬ 1 ≤ 0 := by omega
        replace hd : decide ((0 : Int) < (n : Int)) = true := decide_eq_true (by omega)
        replace hi0 : (0 : Int) ≤ 0 := by omega
        replace hi1 : (0 : Int) < (n : Int) := by omega
        have hg0 : decide ((0 : Int) > 0) = false := rfl
        have hn0 : 0 < n := hlt
        have e0 : wr.cell? ⟨w.heap.size, 0, none⟩ = some (.int .i64 c.f0) := blk_cell b0 0
        have HGE := Aside0.mk hge
        clear b0 b1 hltX
        go_wp2_with fail
        go_roundg (gk - 1)
        case measure => omega
        case rel => exact ⟨0 + 1, rfl, by omega, ⟨by rw [passFrom_lt HGE.out]; exact HM.out⟩, HBL⟩
    · have hd : decide ((i : Int) < (n : Int)) = false := decide_eq_false (by omega)
      obtain rfl : i = n := by omega
      have HLE : Aside0 (i ≤ i) := ⟨Nat.le_refl _⟩
      have e2 : wr.cell? ⟨w.heap.size, 2, none⟩ = some (.int .i64 c.f2.f0) := blk_cell b0 2
      by_cases ht : c.f2.f0 = 0
      · have k0 : (c.f2.f0 != 0) = false := by rw [ht]; rfl
        have HFIN := Aside0.mk (Kd.R_lower HM.out (show w.heap.size ≤ w.heap.size + 2 by omega))
        have HBF := Aside0.mk (HAB.out.trans (HBL.out.mono (show w.heap.size ≤ w.heap.size + 2 by omega)))
        have HT := Aside0.mk ht
        clear b0 b1 ht
        go_wp2_with fail
        exact bodyPost_ret (results_tmp rfl _ _ _) rfl ⟨u5, rfl, by rw [passList_none HT.out, ← HNN.out]; exact HFIN.out, HBF.out⟩
      · have k0 : (c.f2.f0 != 0) = true := bne_iff_ne.2 ht
        have HRX : Aside0 (Kd.R k60 60 wr.drew (w.heap.size + 2) (fun _ => True) u5 (passFrom 1 c t i)) := ⟨by apply Kd.R_drew; exact HM.out⟩
        have HBX : Aside0 (Below (w.heap.size + 2) W2 wr.drew) := ⟨HBL.out.trans (below_drew1 (Below.refl _ _))⟩
        have HSX : Aside0 (w.heap.size + 2 ≤ wr.drew.heap.size) := ⟨Nat.le_trans (by have := HSZ.out; omega) HBX.out.size⟩
        have HLI : Aside0 (((passFrom 1 c t i).length + 1) * 544 ≤ 140737488355328) := ⟨by have h1 := passFrom_len 1 c t i; have h2 := HLN.out; have h3 := HNN.out; have h4 := HLE.out; omega⟩
        have z0 : wr.drew.cell? ⟨w.heap.size, 26, none⟩ = some (.string c.f4.f0.f0) := blk_cell b0 26
        have z1 : wr.drew.cell? ⟨w.heap.size, 27, none⟩ = some (.string c.f4.f0.f1) := blk_cell b0 27
        have z2 : wr.drew.cell? ⟨w.heap.size, 28, none⟩ = some (.string c.f4.f0.f2) := blk_cell b0 28
        have z3 : wr.drew.cell? ⟨w.heap.size, 1, none⟩ = some (.int .i64 c.f1) := blk_cell b0 1
        have z4 : wr.drew.cell? ⟨w.heap.size + 1, 0, none⟩ = some (.string t.f0) := blk_cell b1 0
        have z5 : wr.drew.cell? ⟨w.heap.size + 1, 1, none⟩ = some (.string t.f1) := blk_cell b1 1
        have z6 : wr.drew.cell? ⟨w.heap.size + 1, 2, none⟩ = some (.string t.f2) := blk_cell b1 2
        have zk : wr.drew.heap[w.heap.size]? = some (Obj.cells (List.toArray ((.int .i64 c.f0) :: (.int .i64 c.f1) :: (.int .i64 c.f2.f0) :: (.string c.f2.f1.f0) :: (.string c.f2.f1.f1) :: (.string c.f2.f1.f2) :: (.int .i64 c.f2.f2) :: (.string c.f2.f3.f0) :: [.string c.f2.f3.f1, .string c.f2.f4.f0.f0, .string c.f2.f4.f0.f1, .string c.f2.f4.f0.f2, .int .i64 c.f2.f4.f1, .string c.f2.f4.f2, .int .i64 c.f3.f0, .string c.f3.f1.f0, .string c.f3.f1.f1, .string c.f3.f1.f2, .int .i64 c.f3.f2, .string c.f3.f3.f0, .string c.f3.f3.f1, .string c.f3.f4.f0.f0, .string c.f3.f4.f0.f1, .string c.f3.f4.f0.f2, .int .i64 c.f3.f4.f1, .string c.f3.f4.f2, .string c.f4.f0.f0, .string c.f4.f0.f1, .string c.f4.f0.f2, .int .i64 c.f4.f1, .string c.f4.f2, .string c.f5.f0, .string c.f5.f1, .string c.f6, .string c.f7.f0, .string c.f7.f1, .string c.f7.f2, .slice A c.f8.length c0])) 60 (0, 0)) := b0
        have HT := Aside0.mk ht
        clear b0 b1 ht
        go_wp2_with fail
        refine start_ (n := 14) (S := fun w' => w'.heap[w.heap.size]? = some (Obj.cells (List.toArray ((.int .i64 c.f0) :: (.int .i64 c.f1) :: (.int .i64 c.f2.f0) :: (.string c.f2.f1.f0) :: (.string c.f2.f1.f1) :: (.string c.f2.f1.f2) :: (.int .i64 c.f2.f2) :: (.string c.f2.f3.f0) :: [.string c.f2.f3.f1, .string c.f2.f4.f0.f0, .string c.f2.f4.f0.f1, .string c.f2.f4.f0.f2, .int .i64 c.f2.f4.f1, .string c.f2.f4.f2, .int .i64 c.f3.f0, .string c.f3.f1.f0, .string c.f3.f1.f1, .string c.f3.f1.f2, .int .i64 c.f3.f2, .string c.f3.f3.f0, .string c.f3.f3.f1, .string c.f3.f4.f0.f0, .string c.f3.f4.f0.f1, .string c.f3.f4.f0.f2, .int .i64 c.f3.f4.f1, .string c.f3.f4.f2, .string c.f4.f0.f0, .string c.f4.f0.f1, .string c.f4.f0.f2, .int .i64 c.f4.f1, .string c.f4.f2, .string c.f5.f0, .string c.f5.f1, .string c.f6, .string c.f7.f0, .string c.f7.f1, .string c.f7.f2, .slice A c.f8.length c0])) 60 (0, 0)) ∧ w'.cell? ⟨w.heap.size, 26, none⟩ = some (.string c.f4.f0.f0) ∧ w'.cell? ⟨w.heap.size, 27, none⟩ = some (.string c.f4.f0.f1) ∧ w'.cell? ⟨w.heap.size, 28, none⟩ = some (.string c.f4.f0.f2) ∧ w'.cell? ⟨w.heap.size, 1, none⟩ = some (.int .i64 c.f1) ∧ w'.cell? ⟨w.heap.size + 1, 0, none⟩ = some (.string t.f0) ∧ w'.cell? ⟨w.heap.size + 1, 1, none⟩ = some (.string t.f1) ∧ w'.cell? ⟨w.heap.size + 1, 2, none⟩ = some (.string t.f2)) (ds := [12]) #[false, false, false, false, false, false, false, false, false, false, false, false, false, false] (by kernel_rfl) rfl rfl ⟨zk, z0, z1, z2, z3, z4, z5, z6⟩ (fun hHeld => ?_)
        generalize wr.drew = X at HRX HBX HSX zk z0 z1 z2 z3 z4 z5 z6 hHeld ⊢
        refine pure_ (i := 0) (N := some 54) (v := ?_) (a' := ?_) #[true, false, false, false, false, false, false, false, false, false, false, false, false, false] rfl rfl (by kernel_rfl) (fun _ _ _ h => h) (Or.inl ⟨by rfl, ?_⟩) ?_ ?_
        rotate_left
        · intro w'
          go_simp
          with_reducible rfl
        rotate_left
        · simp only [Act.put, List.setIfInBounds_toArray, List.set_cons_zero, List.set_cons_succ, i64_w, i32_w]
          rfl
        refine pure_ (i := 1) (N := some 55) (v := ?_) (a' := ?_) #[true, true, false, false, false, false, false, false, false, false, false, false, false, false] rfl rfl (by kernel_rfl) (fun _ _ _ h => h) (Or.inl ⟨by rfl, ?_⟩) ?_ ?_
        rotate_left
        · intro w'
          go_simp
          with_reducible rfl
        rotate_left
        · simp only [Act.put, List.setIfInBounds_toArray, List.set_cons_zero, List.set_cons_succ, i64_w, i32_w]
          rfl
        refine pure_ (i := 2) (N := some 56) (v := ?_) (a' := ?_) #[true, true, true, false, false, false, false, false, false, false, false, false, false, false] rfl rfl (by kernel_rfl) (fun _ _ _ h => h) (Or.inl ⟨by rfl, ?_⟩) ?_ ?_
        rotate_left
        · intro w'
          go_simp
          with_reducible rfl
        rotate_left
        · simp only [Act.put, List.setIfInBounds_toArray, List.set_cons_zero, List.set_cons_succ, i64_w, i32_w]
          rfl
        refine pure_ (i := 4) (N := some 58) (v := ?_) (a' := ?_) #[true, true, true, false, true, false, false, false, false, false, false, false, false, false] rfl rfl (by kernel_rfl) (fun _ _ _ h => h) (Or.inl ⟨by rfl, ?_⟩) ?_ ?_
        rotate_left
        · intro w'
          go_simp
          with_reducible rfl
        rotate_left
        · simp only [Act.put, List.setIfInBounds_toArray, List.set_cons_zero, List.set_cons_succ, i64_w, i32_w]
          rfl
        refine pure_ (i := 6) (N := some 60) (v := ?_) (a' := ?_) #[true, true, true, false, true, false, true, false, false, false, false, false, false, false] rfl rfl (by kernel_rfl) (fun _ _ _ h => h) (Or.inl ⟨by rfl, ?_⟩) ?_ ?_
        rotate_left
        · intro w'
          go_simp
          with_reducible rfl
        rotate_left
        · simp only [Act.put, List.setIfInBounds_toArray, List.set_cons_zero, List.set_cons_succ, i64_w, i32_w]
          rfl
        refine take_ (i := 3) (N := some 57) (v := ?_) (a' := ?_) #[true, true, true, true, true, false, true, false, false, false, false, false, false, false] rfl rfl (by kernel_rfl) (fun _ _ _ h => h) (Or.inl ⟨by rfl, ?_⟩) hHeld ?_ ?_
        rotate_left
        · rintro w' ⟨s0, s1, s2, s3, s4, s5, s6, s7⟩
          go_simp
          with_reducible rfl
        rotate_left
        · simp only [Act.put, List.setIfInBounds_toArray, List.set_cons_zero, List.set_cons_succ, i64_w, i32_w]
          rfl
        refine take_ (i := 5) (N := some 59) (v := ?_) (a' := ?_) #[true, true, true, true, true, true, true, false, false, false, false, false, false, false] rfl rfl (by kernel_rfl) (fun _ _ _ h => h) (Or.inl ⟨by rfl, ?_⟩) hHeld ?_ ?_
        rotate_left
        · rintro w' ⟨s0, s1, s2, s3, s4, s5, s6, s7⟩
          go_simp
          with_reducible rfl
        rotate_left
        · simp only [Act.put, List.setIfInBounds_toArray, List.set_cons_zero, List.set_cons_succ, i64_w, i32_w]
          rfl
        refine take_ (i := 7) (N := some 61) (a' := ?_) #[true, true, true, true, true, true, true, true, false, false, false, false, false, false] rfl rfl (by kernel_rfl) (fun _ _ _ h => h) (yieldsIf_load_mid (by rfl) 50 (.tmp 60) rfl (w.heap.size) 2 rfl [.int .i64 c.f2.f0, .string c.f2.f1.f0, .string c.f2.f1.f1, .string c.f2.f1.f2, .int .i64 c.f2.f2, .string c.f2.f3.f0, .string c.f2.f3.f1, .string c.f2.f4.f0.f0, .string c.f2.f4.f0.f1, .string c.f2.f4.f0.f2, .int .i64 c.f2.f4.f1, .string c.f2.f4.f2] _ (fun w' hw' => range_blk hw'.1 2 12 _ (by kernel_rfl)) Try.underlying50 rfl (by kernel_rfl)) hHeld ?_ ?_
        rotate_left
        · simp only [Act.put, List.setIfInBounds_toArray, List.set_cons_zero, List.set_cons_succ, i64_w, i32_w]
          rfl
        refine take_ (i := 8) (N := some 62) (v := ?_) (a' := ?_) #[true, true, true, true, true, true, true, true, true, false, false, false, false, false] rfl rfl (by kernel_rfl) (fun _ _ _ h => h) (Or.inl ⟨by rfl, ?_⟩) hHeld ?_ ?_
        rotate_left
        · rintro w' ⟨s0, s1, s2, s3, s4, s5, s6, s7⟩
          go_simp
          with_reducible rfl
        rotate_left
        · simp only [Act.put, List.setIfInBounds_toArray, List.set_cons_zero, List.set_cons_succ, i64_w, i32_w]
          rfl
        refine one_ (i := 9) (N := some 63) #[true, true, true, true, true, true, true, true, true, true, false, false, false, false] rfl rfl (by kernel_rfl) (by decide) (fun K hK => ?_)
        refine goes_ Try.func16 (by kernel_rfl) rfl #[.agg #[.string t.f0, .string t.f1, .string t.f2]] (by rfl) rfl rfl (by (try simp only [List.map_toArray, List.map_cons, List.map_nil]); first | done | rfl) ?_
        refine (Q44.secateurref25_Ret.calls t.f0 t.f1 t.f2 2 t.f0 t.f1 t.f2 0 ⟨#[]⟩ ⟨#[]⟩ ⟨#[]⟩ ⟨#[]⟩ ⟨#[]⟩ 0 ⟨#[]⟩ X rfl).mono ?_
        rintro e w5 ⟨rfl, hb⟩
        refine ⟨_, rfl, ?_⟩
        have xk := blk_below zk hb
        have x0 := (hb.cell (World.block_lt_of_cell? _ _ z0)).trans z0
        have x1 := (hb.cell (World.block_lt_of_cell? _ _ z1)).trans z1
        have x2 := (hb.cell (World.block_lt_of_cell? _ _ z2)).trans z2
        have x3 := (hb.cell (World.block_lt_of_cell? _ _ z3)).trans z3
        have x4 := (hb.cell (World.block_lt_of_cell? _ _ z4)).trans z4
        have x5 := (hb.cell (World.block_lt_of_cell? _ _ z5)).trans z5
        have x6 := (hb.cell (World.block_lt_of_cell? _ _ z6)).trans z6
        have HR5 := Aside0.mk (Kd.R_below HRX.out hb)
        have HB5 := Aside0.mk (HBX.out.trans (hb.mono HSX.out))
        have HS5 := Aside0.mk (Nat.le_trans HSX.out hb.size)
        clear hb
        refine hK.out _ _ ⟨xk, x0, x1, x2, x3, x4, x5, x6⟩ (fun hHeld => ?_)
        clear hK K
        refine norm_ (a' := ?_) ?_ ?_
        rotate_left
        · show Act.put _ (some 63) _ = _
          simp only [Act.put, List.setIfInBounds_toArray, List.set_cons_zero, List.set_cons_succ, i64_w, i32_w]
          rfl
        refine one_ (i := 10) (N := some 64) #[true, true, true, true, true, true, true, true, true, true, true, false, false, false] rfl rfl (by kernel_rfl) (by decide) (fun K hK => ?_)
        refine goes_ Try.func39 (by kernel_rfl) rfl #[.agg #[.string c.f4.f0.f0, .string c.f4.f0.f1, .string c.f4.f0.f2], .int .i64 c.f1, .agg #[.int .i64 c.f2.f0, .string c.f2.f1.f0, .string c.f2.f1.f1, .string c.f2.f1.f2, .int .i64 c.f2.f2, .string c.f2.f3.f0, .string c.f2.f3.f1, .string c.f2.f4.f0.f0, .string c.f2.f4.f0.f1, .string c.f2.f4.f0.f2, .int .i64 c.f2.f4.f1, .string c.f2.f4.f2], .agg #[.int .i64 2, .string t.f0, .string t.f1, .string t.f2, .int .i64 0, .string ⟨#[]⟩, .string ⟨#[]⟩, .string ⟨#[]⟩, .string ⟨#[]⟩, .string ⟨#[]⟩, .int .i64 0, .string ⟨#[]⟩], .string ⟨#[]⟩] (by rfl) rfl rfl (by (try simp only [List.map_toArray, List.map_cons, List.map_nil]); first | done | rfl) ?_
        refine (ref_flows_ret c t w5).mono ?_
        rintro e w6 ⟨rfl, hb⟩
        refine ⟨_, rfl, ?_⟩
        have ok := blk_below xk hb
        have o0 := (hb.cell (World.block_lt_of_cell? _ _ x0)).trans x0
        have o1 := (hb.cell (World.block_lt_of_cell? _ _ x1)).trans x1
        have o2 := (hb.cell (World.block_lt_of_cell? _ _ x2)).trans x2
        have o3 := (hb.cell (World.block_lt_of_cell? _ _ x3)).trans x3
        have o4 := (hb.cell (World.block_lt_of_cell? _ _ x4)).trans x4
        have o5 := (hb.cell (World.block_lt_of_cell? _ _ x5)).trans x5
        have o6 := (hb.cell (World.block_lt_of_cell? _ _ x6)).trans x6
        have HR6 := Aside0.mk (Kd.R_below HR5.out hb)
        have HB6 := Aside0.mk (HB5.out.trans (hb.mono HS5.out))
        have HS6 := Aside0.mk (Nat.le_trans HS5.out hb.size)
        clear hb
        refine hK.out _ _ ⟨ok, o0, o1, o2, o3, o4, o5, o6⟩ (fun hHeld => ?_)
        clear hK K
        refine norm_ (a' := ?_) ?_ ?_
        rotate_left
        · show Act.put _ (some 64) _ = _
          simp only [Act.put, List.setIfInBounds_toArray, List.set_cons_zero, List.set_cons_succ, i64_w, i32_w]
          rfl
        refine one_ (i := 11) (N := some 65) #[true, true, true, true, true, true, true, true, true, true, true, true, false, false] rfl rfl (by kernel_rfl) (by decide) (fun K hK => ?_)
        refine value_ (w1 := ?_) (v := ?_) (by rfl) rfl ?_ ?_
        rotate_left 2
        · go_simp
          constructor
          · rfl
          · rfl
        refine hK.out _ _ ⟨(blk_alloc ok _), (((below_alloc (Below.refl _ _) _).cell (World.block_lt_of_cell? _ _ o0)).trans o0), (((below_alloc (Below.refl _ _) _).cell (World.block_lt_of_cell? _ _ o1)).trans o1), (((below_alloc (Below.refl _ _) _).cell (World.block_lt_of_cell? _ _ o2)).trans o2), (((below_alloc (Below.refl _ _) _).cell (World.block_lt_of_cell? _ _ o3)).trans o3), (((below_alloc (Below.refl _ _) _).cell (World.block_lt_of_cell? _ _ o4)).trans o4), (((below_alloc (Below.refl _ _) _).cell (World.block_lt_of_cell? _ _ o5)).trans o5), (((below_alloc (Below.refl _ _) _).cell (World.block_lt_of_cell? _ _ o6)).trans o6)⟩ (fun hHeld => ?_)
        clear hK K
        refine norm_ (a' := ?_) ?_ ?_
        rotate_left
        · show Act.put _ (some 65) _ = _
          simp only [Act.put, List.setIfInBounds_toArray, List.set_cons_zero, List.set_cons_succ, i64_w, i32_w]
          rfl
        refine last_ (i := 12) (N := some 66) #[true, true, true, true, true, true, true, true, true, true, true, true, true, false] rfl rfl (by kernel_rfl) (by decide) (fun K hK => ?_)
        refine Kd.R_append_step k60 (w0 := W2) (w.heap.size + 2) (by rfl) _ _ 62 60 _ 544 rfl Try.underlying62 cons_info rfl (by decide) (by decide) u5 (passFrom 1 c t i) (passRet c t) ((.int .i64 2) :: (.int .i64 c.f1) :: (.int .i64 c.f2.f0) :: (.string c.f2.f1.f0) :: (.string c.f2.f1.f1) :: (.string c.f2.f1.f2) :: (.int .i64 c.f2.f2) :: (.string c.f2.f3.f0) :: [.string c.f2.f3.f1, .string c.f2.f4.f0.f0, .string c.f2.f4.f0.f1, .string c.f2.f4.f0.f2, .int .i64 c.f2.f4.f1, .string c.f2.f4.f2, .int .i64 2, .string t.f0, .string t.f1, .string t.f2, .int .i64 0, .string ⟨#[]⟩, .string ⟨#[]⟩, .string ⟨#[]⟩, .string ⟨#[]⟩, .string ⟨#[]⟩, .int .i64 0, .string ⟨#[]⟩, .string c.f4.f0.f0, .string c.f4.f0.f1, .string c.f4.f0.f2, .int .i64 0, .string ⟨#[]⟩, .string ⟨#[]⟩, .string ⟨#[]⟩, .string ⟨#[]⟩, .string ⟨#[]⟩, .string ⟨#[]⟩, .string ⟨#[]⟩, .slice none 0 0]) (fun _ => True) (fun _ => False) rfl (by rfl) (k60_mkM _ _ _ (passRet c t) (v37 := .slice none 0 0) (Kd.R_nil _ _ _ _ _)) (fun _ hk => hk.elim) (fun _ _ => trivial) HR6.out HB6.out HS6.out (by have := HLI.out; omega) ?_
        intro v' w9 hR9 hB9 hg9 hat9
        obtain ⟨Av, nv, cv9, hv⟩ : ∃ A n c, v' = Value.slice A n c := by obtain ⟨A, c, e⟩ := Kd.R_slice hR9; exact ⟨A, _, c, e⟩
        subst hv
        have HR9 := Aside0.mk hR9
        have HB9 := Aside0.mk hB9
        clear hR9 hB9 hg9 hat9
        refine hK.out _ _ ?_
        clear hK K
        refine norm_ (a' := ?_) ?_ ?_
        rotate_left
        · show Act.put _ (some 66) _ = _
          simp only [Act.put, List.setIfInBounds_toArray, List.set_cons_zero, List.set_cons_succ, i64_w, i32_w]
          rfl
        refine pure_ (i := 13) (N := some 5) (v := ?_) (a' := ?_) #[true, true, true, true, true, true, true, true, true, true, true, true, true, true] rfl rfl (by kernel_rfl) (fun _ _ _ h => h) (Or.inl ⟨by rfl, ?_⟩) ?_ ?_
        rotate_left
        · intro w'
          go_simp
          with_reducible rfl
        rotate_left
        · simp only [Act.put, List.setIfInBounds_toArray, List.set_cons_zero, List.set_cons_succ, i64_w, i32_w]
          rfl
        refine done_ (by kernel_rfl) ?_
        have HFIN := Aside0.mk (Kd.R_lower HR9.out (show w.heap.size ≤ w.heap.size + 2 by omega))
        have HBG := Aside0.mk (HAB.out.trans (HB9.out.mono (show w.heap.size ≤ w.heap.size + 2 by omega)))
        go_wp2_with fail
        exact bodyPost_ret (results_tmp rfl _ _ _) rfl ⟨_, rfl, by rw [passList_some HT.out, ← HNN.out]; exact HFIN.out, HBG.out⟩
set_option maxHeartbeats 16000000 in
theorem ref_passNone (c : S60) (A : Option Addr) (c0 : Nat) (t : S25) (w : World) (hk9 : c.f0 ≠ 9) (hk10 : c.f0 ≠ 10) :
    Calls Try.prog 25 #[.agg (List.toArray ((.int .i64 c.f0) :: (.int .i64 c.f1) :: (.int .i64 c.f2.f0) :: (.string c.f2.f1.f0) :: (.string c.f2.f1.f1) :: (.string c.f2.f1.f2) :: (.int .i64 c.f2.f2) :: (.string c.f2.f3.f0) :: [.string c.f2.f3.f1, .string c.f2.f4.f0.f0, .string c.f2.f4.f0.f1, .string c.f2.f4.f0.f2, .int .i64 c.f2.f4.f1, .string c.f2.f4.f2, .int .i64 c.f3.f0, .string c.f3.f1.f0, .string c.f3.f1.f1, .string c.f3.f1.f2, .int .i64 c.f3.f2, .string c.f3.f3.f0, .string c.f3.f3.f1, .string c.f3.f4.f0.f0, .string c.f3.f4.f0.f1, .string c.f3.f4.f0.f2, .int .i64 c.f3.f4.f1, .string c.f3.f4.f2, .string c.f4.f0.f0, .string c.f4.f0.f1, .string c.f4.f0.f2, .int .i64 c.f4.f1, .string c.f4.f2, .string c.f5.f0, .string c.f5.f1, .string c.f6, .string c.f7.f0, .string c.f7.f1, .string c.f7.f2, .slice A c.f8.length c0])), .agg #[.string t.f0, .string t.f1, .string t.f2]] w fun e w' => e = .returned (.slice none 0 0) ∧ Below w.heap.size w w' := by
  have hab := below_alloc (below_alloc (Below.refl w.heap.size w) (Obj.cells (List.toArray ((.int .i64 c.f0) :: (.int .i64 c.f1) :: (.int .i64 c.f2.f0) :: (.string c.f2.f1.f0) :: (.string c.f2.f1.f1) :: (.string c.f2.f1.f2) :: (.int .i64 c.f2.f2) :: (.string c.f2.f3.f0) :: [.string c.f2.f3.f1, .string c.f2.f4.f0.f0, .string c.f2.f4.f0.f1, .string c.f2.f4.f0.f2, .int .i64 c.f2.f4.f1, .string c.f2.f4.f2, .int .i64 c.f3.f0, .string c.f3.f1.f0, .string c.f3.f1.f1, .string c.f3.f1.f2, .int .i64 c.f3.f2, .string c.f3.f3.f0, .string c.f3.f3.f1, .string c.f3.f4.f0.f0, .string c.f3.f4.f0.f1, .string c.f3.f4.f0.f2, .int .i64 c.f3.f4.f1, .string c.f3.f4.f2, .string c.f4.f0.f0, .string c.f4.f0.f1, .string c.f4.f0.f2, .int .i64 c.f4.f1, .string c.f4.f2, .string c.f5.f0, .string c.f5.f1, .string c.f6, .string c.f7.f0, .string c.f7.f1, .string c.f7.f2, .slice A c.f8.length c0])) 60)) (Obj.cells #[.string t.f0, .string t.f1, .string t.f2] 25)
  have h0 := blk_alloc (World.alloc_heap_new w (Obj.cells (List.toArray ((.int .i64 c.f0) :: (.int .i64 c.f1) :: (.int .i64 c.f2.f0) :: (.string c.f2.f1.f0) :: (.string c.f2.f1.f1) :: (.string c.f2.f1.f2) :: (.int .i64 c.f2.f2) :: (.string c.f2.f3.f0) :: [.string c.f2.f3.f1, .string c.f2.f4.f0.f0, .string c.f2.f4.f0.f1, .string c.f2.f4.f0.f2, .int .i64 c.f2.f4.f1, .string c.f2.f4.f2, .int .i64 c.f3.f0, .string c.f3.f1.f0, .string c.f3.f1.f1, .string c.f3.f1.f2, .int .i64 c.f3.f2, .string c.f3.f3.f0, .string c.f3.f3.f1, .string c.f3.f4.f0.f0, .string c.f3.f4.f0.f1, .string c.f3.f4.f0.f2, .int .i64 c.f3.f4.f1, .string c.f3.f4.f2, .string c.f4.f0.f0, .string c.f4.f0.f1, .string c.f4.f0.f2, .int .i64 c.f4.f1, .string c.f4.f2, .string c.f5.f0, .string c.f5.f1, .string c.f6, .string c.f7.f0, .string c.f7.f1, .string c.f7.f2, .slice A c.f8.length c0])) 60)) (Obj.cells #[.string t.f0, .string t.f1, .string t.f2] 25)
  have e0 := blk_cell h0 0
  have k10 : (c.f0 != 10) = true := bne_iff_ne.2 hk10
  have k9 : (c.f0 != 9) = true := bne_iff_ne.2 hk9
  have HAB := Aside0.mk hab
  clear hk9 hk10 hab h0
  go_enter Try.func25, Try.ntmps25
  go_wp2_with fail
  exact bodyPost_ret (results_tmp rfl _ _ _) rfl ⟨rfl, HAB.out⟩
end Go.Proofs.Ytfplcohjnlbfjaa.Hand
end

section
namespace Go.Proofs.Ytfplcohjnlbfjaa.Hand
open Go.RowKit Go.Proofs.YtfplcohjnlbfjaaW.PrintWords Go.Proofs.YtfplcohjnlbfjaaW.PrintLast Go.Proofs.YtfplcohjnlbfjaaW.PrintMore
set_option linter.unusedVariables false
set_option linter.unusedSimpArgs false
set_option maxRecDepth 20000
theorem rangeAt_below {w w' : World} {b o : Nat} {cs : List Value} (h : w.rangeAt b o cs) (hb : Below w.heap.size w w') : w'.rangeAt b o cs := fun j v hv => (hb.cell (World.block_lt_of_cell? _ _ (h j v hv))).trans (h j v hv)
theorem two_allocs (X : World) (o : Obj) : ((X.alloc o).alloc o).heap[X.heap.size]? = some o ∧ ((X.alloc o).alloc o).heap[X.heap.size + 1]? = some o ∧ X.heap.size ≠ X.heap.size + 1 ∧ Below X.heap.size X ((X.alloc o).alloc o) ∧ X.heap.size ≤ X.heap.size ∧ X.heap.size ≤ X.heap.size + 1 := by
  have h := World.alloc_heap_new (X.alloc o) o
  rw [World.size_alloc] at h
  exact ⟨blk_alloc (World.alloc_heap_new X o) o, h, by omega, below_alloc (below_alloc (Below.refl _ _) _) _, Nat.le_refl _, Nat.le_succ _⟩
theorem two_allocs' (X : World) (o : Obj) : ((X.alloc o).alloc o).heap[X.heap.size + 1]? = some o ∧ ((X.alloc o).alloc o).heap[X.heap.size]? = some o ∧ X.heap.size + 1 ≠ X.heap.size ∧ Below X.heap.size X ((X.alloc o).alloc o) ∧ X.heap.size ≤ X.heap.size + 1 ∧ X.heap.size ≤ X.heap.size := by
  obtain ⟨h1, h2, h3, h4, h5, h6⟩ := two_allocs X o
  exact ⟨h2, h1, h3.symm, h4, h6, h5⟩
theorem step_store_blk {P : Program} {ops : Array Oper} {op : Oper} {a : Act} {w : World} {K : Act → World → Prop} {Q : Exit → Act → World → Prop} {g : Nat} {t : TypeId} {cs cs' : Array Value}
    (hb : w.heap[g]? = some (.cells cs t (0, 0))) (ty : TypeId) (x y : Operand) (o n : Nat) (vs : List Value) (hw : Region.wanted op (yielded ops a.tmps) = true) (hN : op.dst = none) (ho : op.op = .store ty x y) (hx : a.eval x = .pointer (some ⟨g, o, none⟩)) (hy : a.eval y = .agg vs.toArray)
    (hl : vs.length = n) (hn : o + n ≤ cs.size) (hi : (P.info? ty).map (·.size) = some n) (h1 : vs.all (·.oneCell') = true) (e : setAll cs o vs = cs')
    (h : ∀ W', W'.heap[g]? = some (.cells cs' t (0, 0)) → (∀ n w0, n ≤ g → Below n w0 w → Below n w0 W') → (∀ k ob, k ≠ g → w.heap[k]? = ob → W'.heap[k]? = ob) → W'.heap.size = w.heap.size → K a W') : if Region.wanted op (yielded ops a.tmps) = true then Oper.wp P op a w K Q else K (a.put none undef) w := by
  rw [if_pos hw]
  subst hl
  have hs : (w.setCells g o vs).heap.size = w.heap.size := setCells_size g vs o w
  refine wp_store_mid ty x y ho g o vs.toArray hx hy (there_blk hb o _ (by simpa using hn)) (by simpa using hi) (all_one h1) ?_
  show K (a.put op.dst undef) _
  rw [hN]
  exact h _ (setCells_blk hb o vs e) (fun n w0 hn hB => setCells_below hn vs o w hB) (fun k ob hk hb => setCells_far hk vs o w hb) hs
theorem wpListG_load_blk {P : Program} {ops : Array Oper} {rest : List Oper} {op : Oper} {a : Act} {w : World} {Q : Exit → Act → World → Prop} {g : Nat} {t : TypeId} {cs : Array Value}
    (hb : w.heap[g]? = some (.cells cs t (0, 0))) (ty : TypeId) (x : Operand) (o n : Nat) (vs : List Value) (d : TypeDesc) (hw : Region.wanted op (yielded ops a.tmps) = true) (ho : op.op = .load ty x) (hx : a.eval x = .pointer (some ⟨g, o, none⟩))
    (hl : vs.length = n) (e : (cs.extract o (o + n)).toList = vs) (hu : P.underlying ty = some d) (hd : d.isRow = true) (hi : (P.info? ty).map (·.size) = some n)
    (h : wpList P ops Q rest (a.put op.dst (.agg vs.toArray)) w) : wpList P ops Q (op :: rest) a w := by
  subst hl
  exact wpList_step fun K hK => by rw [if_pos hw]; exact wp_load_mid ty x ho g o hx vs d (range_blk hb o _ vs e) hu hd hi (hK _ _ h)
theorem row_at {w : World} {base : Nat} {ok : Nat → Prop} {v : Value} {l : List S60} (h : Kd.R k60 60 w base ok v l) (i : Nat) (hi : i < l.length) (x : S60) (hx : l[i]? = some x) (h8 : x.f8 = []) :
    ∃ g cap A7 c7, v = .slice (some ⟨g, 0, none⟩) l.length cap ∧ w.rangeAt g (i * 38) ((.int .i64 x.f0) :: (.int .i64 x.f1) :: (.int .i64 x.f2.f0) :: (.string x.f2.f1.f0) :: (.string x.f2.f1.f1) :: (.string x.f2.f1.f2) :: (.int .i64 x.f2.f2) :: (.string x.f2.f3.f0) :: [.string x.f2.f3.f1, .string x.f2.f4.f0.f0, .string x.f2.f4.f0.f1, .string x.f2.f4.f0.f2, .int .i64 x.f2.f4.f1, .string x.f2.f4.f2, .int .i64 x.f3.f0, .string x.f3.f1.f0, .string x.f3.f1.f1, .string x.f3.f1.f2, .int .i64 x.f3.f2, .string x.f3.f3.f0, .string x.f3.f3.f1, .string x.f3.f4.f0.f0, .string x.f3.f4.f0.f1, .string x.f3.f4.f0.f2, .int .i64 x.f3.f4.f1, .string x.f3.f4.f2, .string x.f4.f0.f0, .string x.f4.f0.f1, .string x.f4.f0.f2, .int .i64 x.f4.f1, .string x.f4.f2, .string x.f5.f0, .string x.f5.f1, .string x.f6, .string x.f7.f0, .string x.f7.f1, .string x.f7.f2, .slice A7 0 c7]) := by
  obtain ⟨inner, ho, hr⟩ := h.2
  obtain ⟨g, cap, rfl⟩ := Joins.ownsRow_form ho (by omega)
  obtain ⟨hn, hc, hC⟩ := Kd.R_reads' h
  obtain ⟨ad, c, e, hl, hK, hc⟩ := Kd.C_get hC z60 (i : Int) (by omega) (Int.ofNat_lt.2 hi)
  cases e
  have hxx : l.getD (i : Int).toNat z60 = x := by
    rw [List.getD_eq_getElem?_getD, show (i : Int).toNat = i from rfl, hx]
    rfl
  rw [hxx] at hK
  obtain ⟨A7, c7, rfl, _, _⟩ := k60_open hK
  rw [h8] at hc
  refine ⟨g, cap, A7, c7, rfl, fun j u hj => ?_⟩
  have h1 := hc j u hj
  rw [Addr.add_mid, show (i : Int).toNat * k60.sz + j = i * 38 + j from rfl, Nat.zero_add] at h1
  exact h1
set_option maxHeartbeats 64000000 in
theorem ref_same (l : List S60) (h8 : ∀ x ∈ l, x.f8 = []) (b1 b2 : Nat) (k1 k2 : Nat → Prop) (v1 v2 : Value) (w : World) (h1 : Kd.R k60 60 w b1 k1 v1 l) (h2 : Kd.R k60 60 w b2 k2 v2 l) (hlen : l.length ≤ 1048576) :
    Calls Try.prog 23 #[v1, v2] w fun e w' => e = .returned (.bool true) ∧ Below w.heap.size w w' := by
  obtain ⟨A1, c1, e1⟩ := Kd.R_slice h1
  obtain ⟨A2, c2, e2⟩ := Kd.R_slice h2
  have H1 := Aside0.mk h1
  have H2 := Aside0.mk h2
  have H8 := Aside0.mk h8
  obtain ⟨n, hn⟩ : ∃ n, n = l.length := ⟨_, rfl⟩
  have hE1 : v1 = .slice A1 n c1 := by rw [hn]; exact e1
  have hE2 : v2 = .slice A2 n c2 := by rw [hn]; exact e2
  subst hE1 hE2
  have HNN := Aside0.mk hn
  have HLN := Aside0.mk hlen
  have hnn : ((n : Int) != (n : Int)) = false := by simp
  clear h1 h2 h8 e1 e2 hn hlen
  go_enter Try.func23, Try.ntmps23
  go_wp2_with fail
  go_loopg [5] n (fun kq v5 wr => ∃ (i : Nat), v5 = .int .i64 (i : Int) ∧ i + kq = n ∧ Aside0 (Below w.heap.size w wr))
  case atStart => exact ⟨0, rfl, by omega, ⟨Below.refl _ _⟩⟩
  case round =>
    obtain ⟨i, rfl, hi, HBL⟩ := hrel
    by_cases hlt : i < n
    · have hltX : i < l.length := by rw [← HNN.out]; exact hlt
      obtain ⟨x, hx⟩ : ∃ x, l[i]? = some x := ⟨_, List.getElem?_eq_getElem hltX⟩
      have hx8 : x.f8 = [] := H8.out x (List.mem_of_getElem? hx)
      obtain ⟨g, cap, A7, c7, eg, z0⟩ := row_at (Kd.R_below H1.out HBL.out) i hltX x hx hx8
      obtain ⟨h, cap2, B7, d7, eh, z1⟩ := row_at (Kd.R_below H2.out HBL.out) i hltX x hx hx8
      injection eg with eg e1_ e2_
      injection eh with eh e3_ e4_
      clear e1_ e2_ e3_ e4_
      subst eg eh
      have hd : decide ((i : Int) < (n : Int)) = true := decide_eq_true (by omega)
      have hi0 : (0 : Int) ≤ (i : Int) := by omega
      have hi1 : (i : Int) < (n : Int) := by omega
      have HLT := Aside0.mk hlt
      replace z0 : wr.drew.rangeAt g (i * 38) ((.int .i64 x.f0) :: (.int .i64 x.f1) :: (.int .i64 x.f2.f0) :: (.string x.f2.f1.f0) :: (.string x.f2.f1.f1) :: (.string x.f2.f1.f2) :: (.int .i64 x.f2.f2) :: (.string x.f2.f3.f0) :: [.string x.f2.f3.f1, .string x.f2.f4.f0.f0, .string x.f2.f4.f0.f1, .string x.f2.f4.f0.f2, .int .i64 x.f2.f4.f1, .string x.f2.f4.f2, .int .i64 x.f3.f0, .string x.f3.f1.f0, .string x.f3.f1.f1, .string x.f3.f1.f2, .int .i64 x.f3.f2, .string x.f3.f3.f0, .string x.f3.f3.f1, .string x.f3.f4.f0.f0, .string x.f3.f4.f0.f1, .string x.f3.f4.f0.f2, .int .i64 x.f3.f4.f1, .string x.f3.f4.f2, .string x.f4.f0.f0, .string x.f4.f0.f1, .string x.f4.f0.f2, .int .i64 x.f4.f1, .string x.f4.f2, .string x.f5.f0, .string x.f5.f1, .string x.f6, .string x.f7.f0, .string x.f7.f1, .string x.f7.f2, .slice A7 0 c7]) := (World.rangeAt_drew _ _ _ _).2 z0
      replace z1 : wr.drew.rangeAt h (i * 38) ((.int .i64 x.f0) :: (.int .i64 x.f1) :: (.int .i64 x.f2.f0) :: (.string x.f2.f1.f0) :: (.string x.f2.f1.f1) :: (.string x.f2.f1.f2) :: (.int .i64 x.f2.f2) :: (.string x.f2.f3.f0) :: [.string x.f2.f3.f1, .string x.f2.f4.f0.f0, .string x.f2.f4.f0.f1, .string x.f2.f4.f0.f2, .int .i64 x.f2.f4.f1, .string x.f2.f4.f2, .int .i64 x.f3.f0, .string x.f3.f1.f0, .string x.f3.f1.f1, .string x.f3.f1.f2, .int .i64 x.f3.f2, .string x.f3.f3.f0, .string x.f3.f3.f1, .string x.f3.f4.f0.f0, .string x.f3.f4.f0.f1, .string x.f3.f4.f0.f2, .int .i64 x.f3.f4.f1, .string x.f3.f4.f2, .string x.f4.f0.f0, .string x.f4.f0.f1, .string x.f4.f0.f2, .int .i64 x.f4.f1, .string x.f4.f2, .string x.f5.f0, .string x.f5.f1, .string x.f6, .string x.f7.f0, .string x.f7.f1, .string x.f7.f2, .slice B7 0 d7]) := (World.rangeAt_drew _ _ _ _).2 z1
      have HBX : Aside0 (Below w.heap.size w wr.drew) := ⟨HBL.out.trans (below_drew1 (Below.refl _ _))⟩
      clear hltX hx hx8
      go_wp2_with fail
      refine start_ (n := 12) (S := fun w' => w'.rangeAt g (i * 38) ((.int .i64 x.f0) :: (.int .i64 x.f1) :: (.int .i64 x.f2.f0) :: (.string x.f2.f1.f0) :: (.string x.f2.f1.f1) :: (.string x.f2.f1.f2) :: (.int .i64 x.f2.f2) :: (.string x.f2.f3.f0) :: [.string x.f2.f3.f1, .string x.f2.f4.f0.f0, .string x.f2.f4.f0.f1, .string x.f2.f4.f0.f2, .int .i64 x.f2.f4.f1, .string x.f2.f4.f2, .int .i64 x.f3.f0, .string x.f3.f1.f0, .string x.f3.f1.f1, .string x.f3.f1.f2, .int .i64 x.f3.f2, .string x.f3.f3.f0, .string x.f3.f3.f1, .string x.f3.f4.f0.f0, .string x.f3.f4.f0.f1, .string x.f3.f4.f0.f2, .int .i64 x.f3.f4.f1, .string x.f3.f4.f2, .string x.f4.f0.f0, .string x.f4.f0.f1, .string x.f4.f0.f2, .int .i64 x.f4.f1, .string x.f4.f2, .string x.f5.f0, .string x.f5.f1, .string x.f6, .string x.f7.f0, .string x.f7.f1, .string x.f7.f2, .slice A7 0 c7]) ∧ w'.rangeAt h (i * 38) ((.int .i64 x.f0) :: (.int .i64 x.f1) :: (.int .i64 x.f2.f0) :: (.string x.f2.f1.f0) :: (.string x.f2.f1.f1) :: (.string x.f2.f1.f2) :: (.int .i64 x.f2.f2) :: (.string x.f2.f3.f0) :: [.string x.f2.f3.f1, .string x.f2.f4.f0.f0, .string x.f2.f4.f0.f1, .string x.f2.f4.f0.f2, .int .i64 x.f2.f4.f1, .string x.f2.f4.f2, .int .i64 x.f3.f0, .string x.f3.f1.f0, .string x.f3.f1.f1, .string x.f3.f1.f2, .int .i64 x.f3.f2, .string x.f3.f3.f0, .string x.f3.f3.f1, .string x.f3.f4.f0.f0, .string x.f3.f4.f0.f1, .string x.f3.f4.f0.f2, .int .i64 x.f3.f4.f1, .string x.f3.f4.f2, .string x.f4.f0.f0, .string x.f4.f0.f1, .string x.f4.f0.f2, .int .i64 x.f4.f1, .string x.f4.f2, .string x.f5.f0, .string x.f5.f1, .string x.f6, .string x.f7.f0, .string x.f7.f1, .string x.f7.f2, .slice B7 0 d7])) (ds := [11]) #[false, false, false, false, false, false, false, false, false, false, false, false] (by kernel_rfl) rfl rfl ⟨z0, z1⟩ (fun hHeld => ?_)
      generalize wr.drew = X at HBX z0 z1 hHeld ⊢
      refine pure_ (i := 0) (N := some 20) (v := ?_) (a' := ?_) #[true, false, false, false, false, false, false, false, false, false, false, false] rfl rfl (by kernel_rfl) (fun _ _ _ h => h) (Or.inl ⟨by rfl, ?_⟩) ?_ ?_
      rotate_left
      · intro w'
        go_simp
        with_reducible rfl
      rotate_left
      · simp only [Act.put, List.setIfInBounds_toArray, List.set_cons_zero, List.set_cons_succ, i64_w, i32_w]
        rfl
      refine pure_ (i := 1) (N := some 21) (v := ?_) (a' := ?_) #[true, true, false, false, false, false, false, false, false, false, false, false] rfl rfl (by kernel_rfl) (fun _ _ _ h => h) (Or.inl ⟨by rfl, ?_⟩) ?_ ?_
      rotate_left
      · intro w'
        go_simp
        with_reducible rfl
      rotate_left
      · simp only [Act.put, List.setIfInBounds_toArray, List.set_cons_zero, List.set_cons_succ, i64_w, i32_w]
        rfl
      refine pure_ (i := 2) (N := some 22) (v := ?_) (a' := ?_) #[true, true, true, false, false, false, false, false, false, false, false, false] rfl rfl (by kernel_rfl) (fun _ _ _ h => h) (Or.inl ⟨by rfl, ?_⟩) ?_ ?_
      rotate_left
      · intro w'
        go_simp
        with_reducible rfl
      rotate_left
      · simp only [Act.put, List.setIfInBounds_toArray, List.set_cons_zero, List.set_cons_succ, i64_w, i32_w]
        rfl
      refine pure_ (i := 4) (N := some 24) (v := ?_) (a' := ?_) #[true, true, true, false, true, false, false, false, false, false, false, false] rfl rfl (by kernel_rfl) (fun _ _ _ h => h) (Or.inl ⟨by rfl, ?_⟩) ?_ ?_
      rotate_left
      · intro w'
        go_simp
        with_reducible rfl
      rotate_left
      · simp only [Act.put, List.setIfInBounds_toArray, List.set_cons_zero, List.set_cons_succ, i64_w, i32_w]
        rfl
      refine pure_ (i := 5) (N := some 25) (v := ?_) (a' := ?_) #[true, true, true, false, true, true, false, false, false, false, false, false] rfl rfl (by kernel_rfl) (fun _ _ _ h => h) (Or.inl ⟨by rfl, ?_⟩) ?_ ?_
      rotate_left
      · intro w'
        go_simp
        with_reducible rfl
      rotate_left
      · simp only [Act.put, List.setIfInBounds_toArray, List.set_cons_zero, List.set_cons_succ, i64_w, i32_w]
        rfl
      refine pure_ (i := 6) (N := some 26) (v := ?_) (a' := ?_) #[true, true, true, false, true, true, true, false, false, false, false, false] rfl rfl (by kernel_rfl) (fun _ _ _ h => h) (Or.inl ⟨by rfl, ?_⟩) ?_ ?_
      rotate_left
      · intro w'
        go_simp
        with_reducible rfl
      rotate_left
      · simp only [Act.put, List.setIfInBounds_toArray, List.set_cons_zero, List.set_cons_succ, i64_w, i32_w]
        rfl
      refine take_ (i := 3) (N := some 23) (a' := ?_) #[true, true, true, true, true, true, true, false, false, false, false, false] rfl rfl (by kernel_rfl) (fun _ _ _ h => h) (yieldsIf_load_mid (by rfl) 60 (.tmp 22) rfl g (i * 38) rfl ((.int .i64 x.f0) :: (.int .i64 x.f1) :: (.int .i64 x.f2.f0) :: (.string x.f2.f1.f0) :: (.string x.f2.f1.f1) :: (.string x.f2.f1.f2) :: (.int .i64 x.f2.f2) :: (.string x.f2.f3.f0) :: [.string x.f2.f3.f1, .string x.f2.f4.f0.f0, .string x.f2.f4.f0.f1, .string x.f2.f4.f0.f2, .int .i64 x.f2.f4.f1, .string x.f2.f4.f2, .int .i64 x.f3.f0, .string x.f3.f1.f0, .string x.f3.f1.f1, .string x.f3.f1.f2, .int .i64 x.f3.f2, .string x.f3.f3.f0, .string x.f3.f3.f1, .string x.f3.f4.f0.f0, .string x.f3.f4.f0.f1, .string x.f3.f4.f0.f2, .int .i64 x.f3.f4.f1, .string x.f3.f4.f2, .string x.f4.f0.f0, .string x.f4.f0.f1, .string x.f4.f0.f2, .int .i64 x.f4.f1, .string x.f4.f2, .string x.f5.f0, .string x.f5.f1, .string x.f6, .string x.f7.f0, .string x.f7.f1, .string x.f7.f2, .slice A7 0 c7]) _ (fun w' hw' => hw'.1) Try.underlying60 rfl (by kernel_rfl)) hHeld ?_ ?_
      rotate_left
      · simp only [Act.put, List.setIfInBounds_toArray, List.set_cons_zero, List.set_cons_succ, i64_w, i32_w]
        rfl
      refine take_ (i := 7) (N := some 27) (a' := ?_) #[true, true, true, true, true, true, true, true, false, false, false, false] rfl rfl (by kernel_rfl) (fun _ _ _ h => h) (yieldsIf_load_mid (by rfl) 60 (.tmp 26) rfl h (i * 38) rfl ((.int .i64 x.f0) :: (.int .i64 x.f1) :: (.int .i64 x.f2.f0) :: (.string x.f2.f1.f0) :: (.string x.f2.f1.f1) :: (.string x.f2.f1.f2) :: (.int .i64 x.f2.f2) :: (.string x.f2.f3.f0) :: [.string x.f2.f3.f1, .string x.f2.f4.f0.f0, .string x.f2.f4.f0.f1, .string x.f2.f4.f0.f2, .int .i64 x.f2.f4.f1, .string x.f2.f4.f2, .int .i64 x.f3.f0, .string x.f3.f1.f0, .string x.f3.f1.f1, .string x.f3.f1.f2, .int .i64 x.f3.f2, .string x.f3.f3.f0, .string x.f3.f3.f1, .string x.f3.f4.f0.f0, .string x.f3.f4.f0.f1, .string x.f3.f4.f0.f2, .int .i64 x.f3.f4.f1, .string x.f3.f4.f2, .string x.f4.f0.f0, .string x.f4.f0.f1, .string x.f4.f0.f2, .int .i64 x.f4.f1, .string x.f4.f2, .string x.f5.f0, .string x.f5.f1, .string x.f6, .string x.f7.f0, .string x.f7.f1, .string x.f7.f2, .slice B7 0 d7]) _ (fun w' hw' => hw'.2) Try.underlying60 rfl (by kernel_rfl)) hHeld ?_ ?_
      rotate_left
      · simp only [Act.put, List.setIfInBounds_toArray, List.set_cons_zero, List.set_cons_succ, i64_w, i32_w]
        rfl
      refine join_ (σ := Nat × Nat) 2 #[true, true, true, true, true, true, true, true, true, true, false, false] (fun s => [(6, .pointer (some ⟨s.1, 0, none⟩)), (7, .pointer (some ⟨s.2, 0, none⟩))]) (fun s w' => w'.heap[s.1]? = some (Obj.cells (List.toArray ((.int .i64 0) :: (.int .i64 0) :: (.int .i64 0) :: (.string ⟨#[]⟩) :: (.string ⟨#[]⟩) :: (.string ⟨#[]⟩) :: (.int .i64 0) :: (.string ⟨#[]⟩) :: [.string ⟨#[]⟩, .string ⟨#[]⟩, .string ⟨#[]⟩, .string ⟨#[]⟩, .int .i64 0, .string ⟨#[]⟩, .int .i64 0, .string ⟨#[]⟩, .string ⟨#[]⟩, .string ⟨#[]⟩, .int .i64 0, .string ⟨#[]⟩, .string ⟨#[]⟩, .string ⟨#[]⟩, .string ⟨#[]⟩, .string ⟨#[]⟩, .int .i64 0, .string ⟨#[]⟩, .string ⟨#[]⟩, .string ⟨#[]⟩, .string ⟨#[]⟩, .int .i64 0, .string ⟨#[]⟩, .string ⟨#[]⟩, .string ⟨#[]⟩, .string ⟨#[]⟩, .string ⟨#[]⟩, .string ⟨#[]⟩, .string ⟨#[]⟩, .slice none 0 0])) 60 (0, 0)) ∧ w'.heap[s.2]? = some (Obj.cells (List.toArray ((.int .i64 0) :: (.int .i64 0) :: (.int .i64 0) :: (.string ⟨#[]⟩) :: (.string ⟨#[]⟩) :: (.string ⟨#[]⟩) :: (.int .i64 0) :: (.string ⟨#[]⟩) :: [.string ⟨#[]⟩, .string ⟨#[]⟩, .string ⟨#[]⟩, .string ⟨#[]⟩, .int .i64 0, .string ⟨#[]⟩, .int .i64 0, .string ⟨#[]⟩, .string ⟨#[]⟩, .string ⟨#[]⟩, .int .i64 0, .string ⟨#[]⟩, .string ⟨#[]⟩, .string ⟨#[]⟩, .string ⟨#[]⟩, .string ⟨#[]⟩, .int .i64 0, .string ⟨#[]⟩, .string ⟨#[]⟩, .string ⟨#[]⟩, .string ⟨#[]⟩, .int .i64 0, .string ⟨#[]⟩, .string ⟨#[]⟩, .string ⟨#[]⟩, .string ⟨#[]⟩, .string ⟨#[]⟩, .string ⟨#[]⟩, .string ⟨#[]⟩, .slice none 0 0])) 60 (0, 0)) ∧ s.1 ≠ s.2 ∧ Below X.heap.size X w' ∧ X.heap.size ≤ s.1 ∧ X.heap.size ≤ s.2) ?_ ?_
      rotate_left
      · intro hCont
        refine two_ (i := 8) (j := 9) (Ni := some 6) (Nj := some 7) #[true, true, true, true, true, true, true, true, true, false, false, false] #[true, true, true, true, true, true, true, true, false, true, false, false] rfl rfl rfl rfl (by kernel_rfl) (by decide) (by decide) (fun K hK => ?_) (fun K hK => ?_)
        · skip
          refine value_ (w1 := ?_) (v := ?_) (by rfl) rfl ?_ ?_
          rotate_left 2
          · go_simp
            constructor
            · rfl
            · rfl
          refine hK.out _ _ ⟨(rangeAt_below z0 (below_alloc (Below.refl _ _) _)), (rangeAt_below z1 (below_alloc (Below.refl _ _) _))⟩ (fun hHeld => ?_)
          clear hK K
          refine norm_ (a' := ?_) ?_ ?_
          rotate_left
          · show Act.put _ (some 6) _ = _
            simp only [Act.put, List.setIfInBounds_toArray, List.set_cons_zero, List.set_cons_succ, i64_w, i32_w]
            rfl
          refine one_ (i := 9) (N := some 7) #[true, true, true, true, true, true, true, true, true, true, false, false] rfl rfl (by kernel_rfl) (by decide) (fun K hK => ?_)
          refine value_ (w1 := ?_) (v := ?_) (by rfl) rfl ?_ ?_
          rotate_left 2
          · go_simp
            constructor
            · rfl
            · rfl
          refine hK.out _ _ ⟨(rangeAt_below z0 (below_alloc (below_alloc (Below.refl _ _) _) _)), (rangeAt_below z1 (below_alloc (below_alloc (Below.refl _ _) _) _))⟩ (fun hHeld => ?_)
          clear hK K
          refine norm_ (a' := ?_) ?_ ?_
          rotate_left
          · show Act.put _ (some 7) _ = _
            simp only [Act.put, List.setIfInBounds_toArray, List.set_cons_zero, List.set_cons_succ, i64_w, i32_w]
            rfl
          exact norm_ (by simp only [putAll, Act.put, List.setIfInBounds_toArray, List.set_cons_zero, List.set_cons_succ]) (hCont (X.heap.size, X.heap.size + 1) _ (two_allocs X _))
        · skip
          refine value_ (w1 := ?_) (v := ?_) (by rfl) rfl ?_ ?_
          rotate_left 2
          · go_simp
            constructor
            · rfl
            · rfl
          refine hK.out _ _ ⟨(rangeAt_below z0 (below_alloc (Below.refl _ _) _)), (rangeAt_below z1 (below_alloc (Below.refl _ _) _))⟩ (fun hHeld => ?_)
          clear hK K
          refine norm_ (a' := ?_) ?_ ?_
          rotate_left
          · show Act.put _ (some 7) _ = _
            simp only [Act.put, List.setIfInBounds_toArray, List.set_cons_zero, List.set_cons_succ, i64_w, i32_w]
            rfl
          refine one_ (i := 8) (N := some 6) #[true, true, true, true, true, true, true, true, true, true, false, false] rfl rfl (by kernel_rfl) (by decide) (fun K hK => ?_)
          refine value_ (w1 := ?_) (v := ?_) (by rfl) rfl ?_ ?_
          rotate_left 2
          · go_simp
            constructor
            · rfl
            · rfl
          refine hK.out _ _ ⟨(rangeAt_below z0 (below_alloc (below_alloc (Below.refl _ _) _) _)), (rangeAt_below z1 (below_alloc (below_alloc (Below.refl _ _) _) _))⟩ (fun hHeld => ?_)
          clear hK K
          refine norm_ (a' := ?_) ?_ ?_
          rotate_left
          · show Act.put _ (some 6) _ = _
            simp only [Act.put, List.setIfInBounds_toArray, List.set_cons_zero, List.set_cons_succ, i64_w, i32_w]
            rfl
          exact norm_ (by simp only [putAll, Act.put, List.setIfInBounds_toArray, List.set_cons_zero, List.set_cons_succ]) (hCont (X.heap.size + 1, X.heap.size) _ (two_allocs' X _))
      rintro ⟨gx, gy⟩ w' ⟨hzx, hzy, hne, hB, hgx, hgy⟩
      have hHeld : (w'.rangeAt g (i * 38) ((.int .i64 x.f0) :: (.int .i64 x.f1) :: (.int .i64 x.f2.f0) :: (.string x.f2.f1.f0) :: (.string x.f2.f1.f1) :: (.string x.f2.f1.f2) :: (.int .i64 x.f2.f2) :: (.string x.f2.f3.f0) :: [.string x.f2.f3.f1, .string x.f2.f4.f0.f0, .string x.f2.f4.f0.f1, .string x.f2.f4.f0.f2, .int .i64 x.f2.f4.f1, .string x.f2.f4.f2, .int .i64 x.f3.f0, .string x.f3.f1.f0, .string x.f3.f1.f1, .string x.f3.f1.f2, .int .i64 x.f3.f2, .string x.f3.f3.f0, .string x.f3.f3.f1, .string x.f3.f4.f0.f0, .string x.f3.f4.f0.f1, .string x.f3.f4.f0.f2, .int .i64 x.f3.f4.f1, .string x.f3.f4.f2, .string x.f4.f0.f0, .string x.f4.f0.f1, .string x.f4.f0.f2, .int .i64 x.f4.f1, .string x.f4.f2, .string x.f5.f0, .string x.f5.f1, .string x.f6, .string x.f7.f0, .string x.f7.f1, .string x.f7.f2, .slice A7 0 c7])) ∧ (w'.rangeAt h (i * 38) ((.int .i64 x.f0) :: (.int .i64 x.f1) :: (.int .i64 x.f2.f0) :: (.string x.f2.f1.f0) :: (.string x.f2.f1.f1) :: (.string x.f2.f1.f2) :: (.int .i64 x.f2.f2) :: (.string x.f2.f3.f0) :: [.string x.f2.f3.f1, .string x.f2.f4.f0.f0, .string x.f2.f4.f0.f1, .string x.f2.f4.f0.f2, .int .i64 x.f2.f4.f1, .string x.f2.f4.f2, .int .i64 x.f3.f0, .string x.f3.f1.f0, .string x.f3.f1.f1, .string x.f3.f1.f2, .int .i64 x.f3.f2, .string x.f3.f3.f0, .string x.f3.f3.f1, .string x.f3.f4.f0.f0, .string x.f3.f4.f0.f1, .string x.f3.f4.f0.f2, .int .i64 x.f3.f4.f1, .string x.f3.f4.f2, .string x.f4.f0.f0, .string x.f4.f0.f1, .string x.f4.f0.f2, .int .i64 x.f4.f1, .string x.f4.f2, .string x.f5.f0, .string x.f5.f1, .string x.f6, .string x.f7.f0, .string x.f7.f1, .string x.f7.f2, .slice B7 0 d7])) := ⟨rangeAt_below z0 hB, rangeAt_below z1 hB⟩
      have HX0 := Aside0.mk hzx
      have HY0 := Aside0.mk hzy
      have HNE := Aside0.mk hne
      have HB0 := Aside0.mk hB
      have HGX := Aside0.mk hgx
      have HGY := Aside0.mk hgy
      clear hzx hzy hne hB hgx hgy
      refine norm_ (a' := ?_) ?_ ?_
      rotate_left
      · simp only [putAll, Act.put, List.setIfInBounds_toArray, List.set_cons_zero, List.set_cons_succ]
        rfl
      refine one_ (i := 10) (N := none) #[true, true, true, true, true, true, true, true, true, true, true, false] rfl rfl (by kernel_rfl) (by decide) (fun K hK => ?_)
      refine step_store_blk HX0.out 60 _ _ 0 38 ((.int .i64 x.f0) :: (.int .i64 x.f1) :: (.int .i64 x.f2.f0) :: (.string x.f2.f1.f0) :: (.string x.f2.f1.f1) :: (.string x.f2.f1.f2) :: (.int .i64 x.f2.f2) :: (.string x.f2.f3.f0) :: [.string x.f2.f3.f1, .string x.f2.f4.f0.f0, .string x.f2.f4.f0.f1, .string x.f2.f4.f0.f2, .int .i64 x.f2.f4.f1, .string x.f2.f4.f2, .int .i64 x.f3.f0, .string x.f3.f1.f0, .string x.f3.f1.f1, .string x.f3.f1.f2, .int .i64 x.f3.f2, .string x.f3.f3.f0, .string x.f3.f3.f1, .string x.f3.f4.f0.f0, .string x.f3.f4.f0.f1, .string x.f3.f4.f0.f2, .int .i64 x.f3.f4.f1, .string x.f3.f4.f2, .string x.f4.f0.f0, .string x.f4.f0.f1, .string x.f4.f0.f2, .int .i64 x.f4.f1, .string x.f4.f2, .string x.f5.f0, .string x.f5.f1, .string x.f6, .string x.f7.f0, .string x.f7.f1, .string x.f7.f2, .slice A7 0 c7]) (by rfl) rfl rfl rfl rfl rfl (show 38 ≤ 38 from Nat.le_refl 38) (by kernel_rfl) rfl (cs' := (List.toArray ((.int .i64 x.f0) :: (.int .i64 x.f1) :: (.int .i64 x.f2.f0) :: (.string x.f2.f1.f0) :: (.string x.f2.f1.f1) :: (.string x.f2.f1.f2) :: (.int .i64 x.f2.f2) :: (.string x.f2.f3.f0) :: [.string x.f2.f3.f1, .string x.f2.f4.f0.f0, .string x.f2.f4.f0.f1, .string x.f2.f4.f0.f2, .int .i64 x.f2.f4.f1, .string x.f2.f4.f2, .int .i64 x.f3.f0, .string x.f3.f1.f0, .string x.f3.f1.f1, .string x.f3.f1.f2, .int .i64 x.f3.f2, .string x.f3.f3.f0, .string x.f3.f3.f1, .string x.f3.f4.f0.f0, .string x.f3.f4.f0.f1, .string x.f3.f4.f0.f2, .int .i64 x.f3.f4.f1, .string x.f3.f4.f2, .string x.f4.f0.f0, .string x.f4.f0.f1, .string x.f4.f0.f2, .int .i64 x.f4.f1, .string x.f4.f2, .string x.f5.f0, .string x.f5.f1, .string x.f6, .string x.f7.f0, .string x.f7.f1, .string x.f7.f2, .slice A7 0 c7]))) (by kernel_rfl) ?_
      intro W1 hq hB hF _
      have HX1 := Aside0.mk hq
      have HY1 := Aside0.mk (hF _ _ HNE.out.symm HY0.out)
      have HB1 := Aside0.mk (hB _ _ HGX.out HB0.out)
      clear hq hB hF
      refine hK.out _ _ ⟨(rangeAt_below z0 HB1.out), (rangeAt_below z1 HB1.out)⟩ (fun hHeld => ?_)
      clear hK K
      refine last_ (i := 11) (N := none) #[true, true, true, true, true, true, true, true, true, true, true, true] rfl rfl (by kernel_rfl) (by decide) (fun K hK => ?_)
      refine step_store_blk HY1.out 60 _ _ 0 38 ((.int .i64 x.f0) :: (.int .i64 x.f1) :: (.int .i64 x.f2.f0) :: (.string x.f2.f1.f0) :: (.string x.f2.f1.f1) :: (.string x.f2.f1.f2) :: (.int .i64 x.f2.f2) :: (.string x.f2.f3.f0) :: [.string x.f2.f3.f1, .string x.f2.f4.f0.f0, .string x.f2.f4.f0.f1, .string x.f2.f4.f0.f2, .int .i64 x.f2.f4.f1, .string x.f2.f4.f2, .int .i64 x.f3.f0, .string x.f3.f1.f0, .string x.f3.f1.f1, .string x.f3.f1.f2, .int .i64 x.f3.f2, .string x.f3.f3.f0, .string x.f3.f3.f1, .string x.f3.f4.f0.f0, .string x.f3.f4.f0.f1, .string x.f3.f4.f0.f2, .int .i64 x.f3.f4.f1, .string x.f3.f4.f2, .string x.f4.f0.f0, .string x.f4.f0.f1, .string x.f4.f0.f2, .int .i64 x.f4.f1, .string x.f4.f2, .string x.f5.f0, .string x.f5.f1, .string x.f6, .string x.f7.f0, .string x.f7.f1, .string x.f7.f2, .slice B7 0 d7]) (by rfl) rfl rfl rfl rfl rfl (show 38 ≤ 38 from Nat.le_refl 38) (by kernel_rfl) rfl (cs' := (List.toArray ((.int .i64 x.f0) :: (.int .i64 x.f1) :: (.int .i64 x.f2.f0) :: (.string x.f2.f1.f0) :: (.string x.f2.f1.f1) :: (.string x.f2.f1.f2) :: (.int .i64 x.f2.f2) :: (.string x.f2.f3.f0) :: [.string x.f2.f3.f1, .string x.f2.f4.f0.f0, .string x.f2.f4.f0.f1, .string x.f2.f4.f0.f2, .int .i64 x.f2.f4.f1, .string x.f2.f4.f2, .int .i64 x.f3.f0, .string x.f3.f1.f0, .string x.f3.f1.f1, .string x.f3.f1.f2, .int .i64 x.f3.f2, .string x.f3.f3.f0, .string x.f3.f3.f1, .string x.f3.f4.f0.f0, .string x.f3.f4.f0.f1, .string x.f3.f4.f0.f2, .int .i64 x.f3.f4.f1, .string x.f3.f4.f2, .string x.f4.f0.f0, .string x.f4.f0.f1, .string x.f4.f0.f2, .int .i64 x.f4.f1, .string x.f4.f2, .string x.f5.f0, .string x.f5.f1, .string x.f6, .string x.f7.f0, .string x.f7.f1, .string x.f7.f2, .slice B7 0 d7]))) (by kernel_rfl) ?_
      intro W2 hq hB hF _
      have HY2 := Aside0.mk hq
      have HX2 := Aside0.mk (hF _ _ HNE.out HX1.out)
      have HB2 := Aside0.mk (hB _ _ HGY.out HB1.out)
      clear hq hB hF
      refine hK.out _ _ ?_
      clear hK K
      refine done_ (by kernel_rfl) ?_
      have p0 : W2.cell? ⟨gx, 0, none⟩ = some (.int .i64 x.f0) := blk_cell HX2.out 0
      have q0 : W2.cell? ⟨gy, 0, none⟩ = some (.int .i64 x.f0) := blk_cell HY2.out 0
      have p1 : W2.cell? ⟨gx, 1, none⟩ = some (.int .i64 x.f1) := blk_cell HX2.out 1
      have q1 : W2.cell? ⟨gy, 1, none⟩ = some (.int .i64 x.f1) := blk_cell HY2.out 1
      have p2 : W2.cell? ⟨gx, 2, none⟩ = some (.int .i64 x.f2.f0) := blk_cell HX2.out 2
      have q2 : W2.cell? ⟨gy, 2, none⟩ = some (.int .i64 x.f2.f0) := blk_cell HY2.out 2
      have p3 : W2.cell? ⟨gx, 3, none⟩ = some (.string x.f2.f1.f0) := blk_cell HX2.out 3
      have q3 : W2.cell? ⟨gy, 3, none⟩ = some (.string x.f2.f1.f0) := blk_cell HY2.out 3
      have p4 : W2.cell? ⟨gx, 4, none⟩ = some (.string x.f2.f1.f1) := blk_cell HX2.out 4
      have q4 : W2.cell? ⟨gy, 4, none⟩ = some (.string x.f2.f1.f1) := blk_cell HY2.out 4
      have p5 : W2.cell? ⟨gx, 5, none⟩ = some (.string x.f2.f1.f2) := blk_cell HX2.out 5
      have q5 : W2.cell? ⟨gy, 5, none⟩ = some (.string x.f2.f1.f2) := blk_cell HY2.out 5
      have p6 : W2.cell? ⟨gx, 6, none⟩ = some (.int .i64 x.f2.f2) := blk_cell HX2.out 6
      have q6 : W2.cell? ⟨gy, 6, none⟩ = some (.int .i64 x.f2.f2) := blk_cell HY2.out 6
      have p7 : W2.cell? ⟨gx, 7, none⟩ = some (.string x.f2.f3.f0) := blk_cell HX2.out 7
      have q7 : W2.cell? ⟨gy, 7, none⟩ = some (.string x.f2.f3.f0) := blk_cell HY2.out 7
      have p8 : W2.cell? ⟨gx, 8, none⟩ = some (.string x.f2.f3.f1) := blk_cell HX2.out 8
      have q8 : W2.cell? ⟨gy, 8, none⟩ = some (.string x.f2.f3.f1) := blk_cell HY2.out 8
      have p9 : W2.cell? ⟨gx, 9, none⟩ = some (.string x.f2.f4.f0.f0) := blk_cell HX2.out 9
      have q9 : W2.cell? ⟨gy, 9, none⟩ = some (.string x.f2.f4.f0.f0) := blk_cell HY2.out 9
      have p10 : W2.cell? ⟨gx, 10, none⟩ = some (.string x.f2.f4.f0.f1) := blk_cell HX2.out 10
      have q10 : W2.cell? ⟨gy, 10, none⟩ = some (.string x.f2.f4.f0.f1) := blk_cell HY2.out 10
      have p11 : W2.cell? ⟨gx, 11, none⟩ = some (.string x.f2.f4.f0.f2) := blk_cell HX2.out 11
      have q11 : W2.cell? ⟨gy, 11, none⟩ = some (.string x.f2.f4.f0.f2) := blk_cell HY2.out 11
      have p12 : W2.cell? ⟨gx, 12, none⟩ = some (.int .i64 x.f2.f4.f1) := blk_cell HX2.out 12
      have q12 : W2.cell? ⟨gy, 12, none⟩ = some (.int .i64 x.f2.f4.f1) := blk_cell HY2.out 12
      have p13 : W2.cell? ⟨gx, 13, none⟩ = some (.string x.f2.f4.f2) := blk_cell HX2.out 13
      have q13 : W2.cell? ⟨gy, 13, none⟩ = some (.string x.f2.f4.f2) := blk_cell HY2.out 13
      have p14 : W2.cell? ⟨gx, 14, none⟩ = some (.int .i64 x.f3.f0) := blk_cell HX2.out 14
      have q14 : W2.cell? ⟨gy, 14, none⟩ = some (.int .i64 x.f3.f0) := blk_cell HY2.out 14
      have p15 : W2.cell? ⟨gx, 15, none⟩ = some (.string x.f3.f1.f0) := blk_cell HX2.out 15
      have q15 : W2.cell? ⟨gy, 15, none⟩ = some (.string x.f3.f1.f0) := blk_cell HY2.out 15
      have p16 : W2.cell? ⟨gx, 16, none⟩ = some (.string x.f3.f1.f1) := blk_cell HX2.out 16
      have q16 : W2.cell? ⟨gy, 16, none⟩ = some (.string x.f3.f1.f1) := blk_cell HY2.out 16
      have p17 : W2.cell? ⟨gx, 17, none⟩ = some (.string x.f3.f1.f2) := blk_cell HX2.out 17
      have q17 : W2.cell? ⟨gy, 17, none⟩ = some (.string x.f3.f1.f2) := blk_cell HY2.out 17
      have p18 : W2.cell? ⟨gx, 18, none⟩ = some (.int .i64 x.f3.f2) := blk_cell HX2.out 18
      have q18 : W2.cell? ⟨gy, 18, none⟩ = some (.int .i64 x.f3.f2) := blk_cell HY2.out 18
      have p19 : W2.cell? ⟨gx, 19, none⟩ = some (.string x.f3.f3.f0) := blk_cell HX2.out 19
      have q19 : W2.cell? ⟨gy, 19, none⟩ = some (.string x.f3.f3.f0) := blk_cell HY2.out 19
      have p20 : W2.cell? ⟨gx, 20, none⟩ = some (.string x.f3.f3.f1) := blk_cell HX2.out 20
      have q20 : W2.cell? ⟨gy, 20, none⟩ = some (.string x.f3.f3.f1) := blk_cell HY2.out 20
      have p21 : W2.cell? ⟨gx, 21, none⟩ = some (.string x.f3.f4.f0.f0) := blk_cell HX2.out 21
      have q21 : W2.cell? ⟨gy, 21, none⟩ = some (.string x.f3.f4.f0.f0) := blk_cell HY2.out 21
      have p22 : W2.cell? ⟨gx, 22, none⟩ = some (.string x.f3.f4.f0.f1) := blk_cell HX2.out 22
      have q22 : W2.cell? ⟨gy, 22, none⟩ = some (.string x.f3.f4.f0.f1) := blk_cell HY2.out 22
      have p23 : W2.cell? ⟨gx, 23, none⟩ = some (.string x.f3.f4.f0.f2) := blk_cell HX2.out 23
      have q23 : W2.cell? ⟨gy, 23, none⟩ = some (.string x.f3.f4.f0.f2) := blk_cell HY2.out 23
      have p24 : W2.cell? ⟨gx, 24, none⟩ = some (.int .i64 x.f3.f4.f1) := blk_cell HX2.out 24
      have q24 : W2.cell? ⟨gy, 24, none⟩ = some (.int .i64 x.f3.f4.f1) := blk_cell HY2.out 24
      have p25 : W2.cell? ⟨gx, 25, none⟩ = some (.string x.f3.f4.f2) := blk_cell HX2.out 25
      have q25 : W2.cell? ⟨gy, 25, none⟩ = some (.string x.f3.f4.f2) := blk_cell HY2.out 25
      have p26 : W2.cell? ⟨gx, 26, none⟩ = some (.string x.f4.f0.f0) := blk_cell HX2.out 26
      have q26 : W2.cell? ⟨gy, 26, none⟩ = some (.string x.f4.f0.f0) := blk_cell HY2.out 26
      have p27 : W2.cell? ⟨gx, 27, none⟩ = some (.string x.f4.f0.f1) := blk_cell HX2.out 27
      have q27 : W2.cell? ⟨gy, 27, none⟩ = some (.string x.f4.f0.f1) := blk_cell HY2.out 27
      have p28 : W2.cell? ⟨gx, 28, none⟩ = some (.string x.f4.f0.f2) := blk_cell HX2.out 28
      have q28 : W2.cell? ⟨gy, 28, none⟩ = some (.string x.f4.f0.f2) := blk_cell HY2.out 28
      have p29 : W2.cell? ⟨gx, 29, none⟩ = some (.int .i64 x.f4.f1) := blk_cell HX2.out 29
      have q29 : W2.cell? ⟨gy, 29, none⟩ = some (.int .i64 x.f4.f1) := blk_cell HY2.out 29
      have p30 : W2.cell? ⟨gx, 30, none⟩ = some (.string x.f4.f2) := blk_cell HX2.out 30
      have q30 : W2.cell? ⟨gy, 30, none⟩ = some (.string x.f4.f2) := blk_cell HY2.out 30
      have p31 : W2.cell? ⟨gx, 31, none⟩ = some (.string x.f5.f0) := blk_cell HX2.out 31
      have q31 : W2.cell? ⟨gy, 31, none⟩ = some (.string x.f5.f0) := blk_cell HY2.out 31
      have p32 : W2.cell? ⟨gx, 32, none⟩ = some (.string x.f5.f1) := blk_cell HX2.out 32
      have q32 : W2.cell? ⟨gy, 32, none⟩ = some (.string x.f5.f1) := blk_cell HY2.out 32
      have p33 : W2.cell? ⟨gx, 33, none⟩ = some (.string x.f6) := blk_cell HX2.out 33
      have q33 : W2.cell? ⟨gy, 33, none⟩ = some (.string x.f6) := blk_cell HY2.out 33
      have p34 : W2.cell? ⟨gx, 34, none⟩ = some (.string x.f7.f0) := blk_cell HX2.out 34
      have q34 : W2.cell? ⟨gy, 34, none⟩ = some (.string x.f7.f0) := blk_cell HY2.out 34
      have p35 : W2.cell? ⟨gx, 35, none⟩ = some (.string x.f7.f1) := blk_cell HX2.out 35
      have q35 : W2.cell? ⟨gy, 35, none⟩ = some (.string x.f7.f1) := blk_cell HY2.out 35
      have p36 : W2.cell? ⟨gx, 36, none⟩ = some (.string x.f7.f2) := blk_cell HX2.out 36
      have q36 : W2.cell? ⟨gy, 36, none⟩ = some (.string x.f7.f2) := blk_cell HY2.out 36
      have p37 : W2.cell? ⟨gx, 37, none⟩ = some (.slice A7 0 c7) := blk_cell HX2.out 37
      have q37 : W2.cell? ⟨gy, 37, none⟩ = some (.slice B7 0 d7) := blk_cell HY2.out 37
      have HBZ := Aside0.mk (HBX.out.trans (HB2.out.mono HBX.out.size))
      clear hHeld z0 z1
      go_wp2_with (first
        | (refine wpListG_load_blk HX2.out 50 _ 2 12 [.int .i64 x.f2.f0, .string x.f2.f1.f0, .string x.f2.f1.f1, .string x.f2.f1.f2, .int .i64 x.f2.f2, .string x.f2.f3.f0, .string x.f2.f3.f1, .string x.f2.f4.f0.f0, .string x.f2.f4.f0.f1, .string x.f2.f4.f0.f2, .int .i64 x.f2.f4.f1, .string x.f2.f4.f2] _ (by rfl) rfl rfl rfl (by kernel_rfl) Try.underlying50 rfl (by kernel_rfl) ?_)
        | (refine wpListG_load_blk HY2.out 50 _ 2 12 [.int .i64 x.f2.f0, .string x.f2.f1.f0, .string x.f2.f1.f1, .string x.f2.f1.f2, .int .i64 x.f2.f2, .string x.f2.f3.f0, .string x.f2.f3.f1, .string x.f2.f4.f0.f0, .string x.f2.f4.f0.f1, .string x.f2.f4.f0.f2, .int .i64 x.f2.f4.f1, .string x.f2.f4.f2] _ (by rfl) rfl rfl rfl (by kernel_rfl) Try.underlying50 rfl (by kernel_rfl) ?_)
        | (refine wpListG_load_blk HX2.out 50 _ 14 12 [.int .i64 x.f3.f0, .string x.f3.f1.f0, .string x.f3.f1.f1, .string x.f3.f1.f2, .int .i64 x.f3.f2, .string x.f3.f3.f0, .string x.f3.f3.f1, .string x.f3.f4.f0.f0, .string x.f3.f4.f0.f1, .string x.f3.f4.f0.f2, .int .i64 x.f3.f4.f1, .string x.f3.f4.f2] _ (by rfl) rfl rfl rfl (by kernel_rfl) Try.underlying50 rfl (by kernel_rfl) ?_)
        | (refine wpListG_load_blk HY2.out 50 _ 14 12 [.int .i64 x.f3.f0, .string x.f3.f1.f0, .string x.f3.f1.f1, .string x.f3.f1.f2, .int .i64 x.f3.f2, .string x.f3.f3.f0, .string x.f3.f3.f1, .string x.f3.f4.f0.f0, .string x.f3.f4.f0.f1, .string x.f3.f4.f0.f2, .int .i64 x.f3.f4.f1, .string x.f3.f4.f2] _ (by rfl) rfl rfl rfl (by kernel_rfl) Try.underlying50 rfl (by kernel_rfl) ?_)
        | (refine wpListG_load_blk HX2.out 46 _ 26 5 [.string x.f4.f0.f0, .string x.f4.f0.f1, .string x.f4.f0.f2, .int .i64 x.f4.f1, .string x.f4.f2] _ (by rfl) rfl rfl rfl (by kernel_rfl) Try.underlying46 rfl (by kernel_rfl) ?_)
        | (refine wpListG_load_blk HY2.out 46 _ 26 5 [.string x.f4.f0.f0, .string x.f4.f0.f1, .string x.f4.f0.f2, .int .i64 x.f4.f1, .string x.f4.f2] _ (by rfl) rfl rfl rfl (by kernel_rfl) Try.underlying46 rfl (by kernel_rfl) ?_)
        | (refine wpListG_load_blk HX2.out 44 _ 31 2 [.string x.f5.f0, .string x.f5.f1] _ (by rfl) rfl rfl rfl (by kernel_rfl) Try.underlying44 rfl (by kernel_rfl) ?_)
        | (refine wpListG_load_blk HY2.out 44 _ 31 2 [.string x.f5.f0, .string x.f5.f1] _ (by rfl) rfl rfl rfl (by kernel_rfl) Try.underlying44 rfl (by kernel_rfl) ?_)
        | (refine wpListG_load_blk HX2.out 25 _ 34 3 [.string x.f7.f0, .string x.f7.f1, .string x.f7.f2] _ (by rfl) rfl rfl rfl (by kernel_rfl) Try.underlying25 rfl (by kernel_rfl) ?_)
        | (refine wpListG_load_blk HY2.out 25 _ 34 3 [.string x.f7.f0, .string x.f7.f1, .string x.f7.f2] _ (by rfl) rfl rfl rfl (by kernel_rfl) Try.underlying25 rfl (by kernel_rfl) ?_)
        | fail)
      refine wp_loop_rounds 1 ?_
      rw [rounds_succ]
      go_wp2_with fail
      go_roundg (gk - 1)
      case measure => omega
      case rel => exact ⟨i + 1, by rw [show wrap64 ((i : Int) + 1) = ((i + 1 : Nat) : Int) from by have h1 := HLN.out; have h2 := HNN.out; have h3 := HLT.out; unfold wrap64; omega], by omega, HBZ⟩
    · have hd : decide ((i : Int) < (n : Int)) = false := decide_eq_false (by omega)
      go_wp2_with fail
      exact bodyPost_ret (results_tmp rfl _ _ _) rfl ⟨rfl, HBL.out⟩
end Go.Proofs.Ytfplcohjnlbfjaa.Hand
end

section
namespace Go.Proofs.Ytfplcohjnlbfjaa.Hand
open Go.ChangeShapes Go.WideShapes Go.ChangeAt Go.RowKit Go.Proofs.YtfplcohjnlbfjaaW.PrintWords Go.Proofs.YtfplcohjnlbfjaaW.PrintLast Go.Proofs.YtfplcohjnlbfjaaW.PrintMore
section
variable {H : Type} {enc : TypeId × Value → H} {P : Program} {w : World} {base : Nat} {spare : Nat → Bool} {held : Bool}
end
end Go.Proofs.Ytfplcohjnlbfjaa.Hand
end

section
namespace Go.Proofs.Ytfplcohjnlbfjaa.Hand
open Go.ChangeShapes Go.WideShapes Go.ChangeAt Go.Joins Go.Deep Go.RowKit Go.Proofs.YtfplcohjnlbfjaaW.PrintWords Go.Proofs.YtfplcohjnlbfjaaW.PrintLast Go.Proofs.YtfplcohjnlbfjaaW.PrintMore
set_option linter.unusedVariables false
namespace Op
theorem list_each {α : Type} {Q : Nat → α → Prop} : ∀ (n : Nat), (∀ i, i < n → ∃ a, Q i a) → ∃ l : List α, l.length = n ∧ ∀ i a, l[i]? = some a → Q i a
  | 0, _ => ⟨[], rfl, fun i a h => by simp at h⟩
  | n + 1, h => by
    obtain ⟨l, hl, hq⟩ := list_each n fun i hi => h i (by omega)
    obtain ⟨a, ha⟩ := h n (by omega)
    refine ⟨l ++ [a], by simp [hl], fun i b hb => ?_⟩
    by_cases hi : i < l.length
    · rw [List.getElem?_append_left hi] at hb
      exact hq i b hb
    · rw [List.getElem?_append_right (by omega)] at hb
      have h0 : i - l.length = 0 := by
        have := (List.getElem?_eq_some_iff.1 hb).1
        simp at this
        omega
      rw [h0] at hb
      simp at hb
      have : i = n := by omega
      rw [this, ← hb]
      exact ha
theorem add_add (a : Addr) (i j : Nat) : (a.add i).add j = a.add (i + j) := by
  unfold Addr.add
  by_cases hi : i = 0
  · subst hi; simp
  · by_cases hj : j = 0
    · subst hj; simp
    · rw [if_neg hi, if_neg hj, if_neg (by omega), Nat.add_assoc]
theorem cells_each {w : World} {base n : Nat} {a : Addr} {cs : List Value} (h : w.cells? base a n = some cs) : cs.length = n ∧ ∀ j u, cs[j]? = some u → w.cell? (a.add j) = some u := by
  unfold World.cells? at h
  split at h
  · have hl := mapM_some_length h
    rw [List.length_range] at hl
    refine ⟨hl, fun j u hu => ?_⟩
    have hj := (List.getElem?_eq_some_iff.1 hu).1
    have hg := mapM_some_get h j j (by rw [List.getElem?_range (by omega)])
    rw [hg, hu]
  · cases h
section
variable {H : Type} {enc : TypeId × Value → H} {P : Program} {w : World} {base : Nat} {spare : Nat → Bool} {held : Bool}
theorem weights_all {t : TypeId} : ∀ {l : List (DataW H)} {d : DataW H}, d ∈ l → ∀ n ∈ d.weights P t, n ∈ DataW.weightsAll P t l
  | a :: l, d, hd, n, hn => by
    simp only [DataW.weightsAll, List.mem_append]
    rcases List.mem_cons.1 hd with rfl | hd
    · exact .inl hn
    · exact .inr (weights_all hd n hn)
def Opens (enc : TypeId × Value → H) (P : Program) (w : World) (base : Nat) (spare : Nat → Bool) (held : Bool) {α : Type} (kd : Kd α) (Q : α → Prop) (t : TypeId) : Prop :=
  ∀ (n : Nat) (cs : List Value) (x : DataW H × List MemPlace), DataW.trod enc P w base spare held n t cs = some x → (∀ m ∈ x.1.weights P t, m ≤ reachBytes) → ∃ a, kd.K w a cs ∧ Q a
theorem opens_str {t : TypeId} (ht : P.underlying t = some .string) : Opens enc P w base spare held Kd.string (fun s => s.size ≤ 140737488351232) t := by
  intro n cs x h hw
  obtain ⟨s, rfl, rfl, _⟩ := DataW.trod_string ht h
  have h2 := hw s.data.toList.length (by simp [DataW.weights])
  rw [Array.length_toList] at h2
  exact ⟨s, rfl, h2⟩
theorem opens_int {k : IntKind} {t : TypeId} (ht : P.underlying t = some (.int k)) : Opens enc P w base spare held (Kd.int k) (fun i => (Lit.int k i).wf = true) t := by
  intro n cs x h hw
  obtain ⟨i, rfl, rfl, hwf⟩ := DataW.trod_int ht h
  exact ⟨i, rfl, hwf⟩
theorem opens_slice {α : Type} {kd : Kd α} {Q : α → Prop} {t e : TypeId} (ht : P.underlying t = some (.slice e)) (hc : P.cellsOf e = kd.sz) (hB : 1 ≤ P.bytesOf e) (ho : Opens enc P w base spare held kd Q e) :
    Opens enc P w base spare held (Kd.slice e kd) (fun l => l.length ≤ 140737488351232 ∧ ∀ x ∈ l, Q x) t := by
  intro fuel cs d hf hw
  rcases DataW.trod_slice ht hf with ⟨rfl, _⟩ | ⟨x, len, cap, elems, rest, n, _, rfl, hx, hb, hl, hm, hlen, hel, _, _⟩
  · exact ⟨[], ⟨none, 0, rfl, Nat.le_refl _, ⟨rfl, Nat.zero_le _, fun h => absurd h (Nat.lt_irrefl 0)⟩⟩, Nat.zero_le _, by simp⟩
  · subst hx
    have hlw : len ≤ 140737488351232 := by
      have h1 := hw ((elems.map (·.1)).length * P.bytesOf e + (rest.map (·.1)).length * P.bytesOf e) (by simp [DataW.weights, ht, Nat.add_mul])
      rw [List.length_map, hlen] at h1
      have h2 : len * 1 ≤ len * P.bytesOf e := Nat.mul_le_mul_left _ hB
      have h3 : reachBytes = 140737488351232 := rfl
      omega
    have each : ∀ i, i < len → ∃ y : α, Q y ∧ ∃ cs : List Value, cs.length = kd.sz ∧ kd.K w y cs ∧ ∀ j u, cs[j]? = some u → w.cell? (x.add (i * kd.sz + j)) = some u := by
      intro i hi
      have h1 := hel i hi
      have hi2 : i < elems.length := by omega
      rw [List.getElem?_eq_getElem hi2, hc, Option.bind_eq_some_iff] at h1
      obtain ⟨cs, h2, h3⟩ := h1
      obtain ⟨y, h4, h5⟩ := ho _ _ _ h3 (fun m hm => hw m (by
        simp only [DataW.weights, ht, List.mem_cons, List.mem_append]
        exact .inr (.inl (weights_all (List.mem_map_of_mem (List.getElem_mem hi2)) m hm))))
      obtain ⟨h6, h7⟩ := cells_each h2
      refine ⟨y, h5, cs, h6, h4, fun j z hz => ?_⟩
      have h8 := h7 j z hz
      rw [add_add] at h8
      exact h8
    obtain ⟨ls, hls, hq⟩ := list_each len each
    have hmx : len ≤ 9223372036854775807 := by omega
    refine ⟨ls, ⟨some x, cap, by rw [hls], by rw [hls]; exact hl, ⟨rfl, by rw [hls]; exact hmx, fun _ => ⟨x, rfl, fun j p hp => ?_⟩⟩⟩, by rw [hls]; exact hlw, fun y hy => ?_⟩
    · obtain ⟨_, cs, h1, h2, h3⟩ := hq j p hp
      exact ⟨cs, h1, h2, fun i u hu => h3 i u hu⟩
    · obtain ⟨i, hi⟩ := List.getElem?_of_mem hy
      exact (hq i y hi).1
def Fields (enc : TypeId × Value → H) (P : Program) (w : World) (base : Nat) (spare : Nat → Bool) (held : Bool) {α : Type} (kd : Kd α) (Q : α → Prop) (fs : List Field) (o : Nat) : Prop :=
  ∀ (n : Nat) (cs : List Value) (xs : List (DataW H × List MemPlace)), cs.length = o + kd.sz → xs.length = fs.length →
    (∀ (i : Nat) (f : Field), fs[i]? = some f → DataW.trod enc P w base spare held n f.type ((cs.drop f.offset).take (P.cellsOf f.type)) = xs[i]?) →
    (∀ (i : Nat) (f : Field) (x : DataW H × List MemPlace), fs[i]? = some f → xs[i]? = some x → ∀ m ∈ x.1.weights P f.type, m ≤ reachBytes) → ∃ a, kd.K w a (cs.drop o) ∧ Q a
theorem fields_one {α : Type} {kd : Kd α} {Q : α → Prop} {f : Field} {o : Nat} (hoff : f.offset = o) (hc : P.cellsOf f.type = kd.sz) (ho : Opens enc P w base spare held kd Q f.type) : Fields enc P w base spare held kd Q [f] o := by
  intro n cs xs hl hx hf hw
  match xs, hx with
  | [y], _ =>
    have h := hf 0 f rfl
    rw [hoff, hc, List.take_of_length_le (by rw [List.length_drop]; omega)] at h
    exact ho _ _ _ h (hw 0 f y rfl rfl)
theorem fields_cons {α β : Type} {k1 : Kd α} {k2 : Kd β} {Q1 : α → Prop} {Q2 : β → Prop} {f : Field} {fs : List Field} {o : Nat} (hoff : f.offset = o) (hc : P.cellsOf f.type = k1.sz) (ho : Opens enc P w base spare held k1 Q1 f.type)
    (h2 : Fields enc P w base spare held k2 Q2 fs (o + k1.sz)) : Fields enc P w base spare held (Kd.pair k1 k2) (fun p => Q1 p.1 ∧ Q2 p.2) (f :: fs) o := by
  intro n cs xs hl hx hf hw
  have hl' : cs.length = o + (k1.sz + k2.sz) := hl
  match xs, hx with
  | y :: ys, hx =>
    have h := hf 0 f rfl
    rw [hoff, hc] at h
    obtain ⟨a, ha, qa⟩ := ho _ _ _ h (hw 0 f y rfl rfl)
    obtain ⟨b, hb, qb⟩ := h2 n cs ys (by omega) (by simpa using hx) (fun i g hg => by have := hf (i + 1) g (by simpa using hg); simpa using this) (fun i g x hg hx => hw (i + 1) g x (by simpa using hg) (by simpa using hx))
    refine ⟨(a, b), ⟨(cs.drop o).take k1.sz, cs.drop (o + k1.sz), ?_, ha, hb⟩, qa, qb⟩
    rw [← List.drop_drop, List.take_append_drop]
theorem weights_fields : ∀ {fs : List Field} {xs : List (DataW H × List MemPlace)} {i : Nat} {f : Field} {x : DataW H × List MemPlace}, fs[i]? = some f → xs[i]? = some x → ∀ m ∈ x.1.weights P f.type, m ∈ DataW.weightsEach P (fs.map (·.type)) (xs.map (·.1))
  | [], _, i, f, x, hf, _, _, _ => by simp at hf
  | _ :: _, [], i, f, x, _, hx, _, _ => by simp at hx
  | g :: fs, y :: ys, 0, f, x, hf, hx, m, hm => by
    simp at hf hx
    subst hf hx
    simp only [List.map_cons, DataW.weightsEach, List.mem_append]
    exact .inl hm
  | g :: fs, y :: ys, i + 1, f, x, hf, hx, m, hm => by
    simp only [List.map_cons, DataW.weightsEach, List.mem_append]
    exact .inr (weights_fields (fs := fs) (xs := ys) (i := i) (by simpa using hf) (by simpa using hx) m hm)
theorem opens_struct {α : Type} {kd : Kd α} {Q : α → Prop} {t : TypeId} {fs : Array Field} (ht : P.underlying t = some (.struct fs)) (hc : P.cellsOf t = kd.sz) (hf : Fields enc P w base spare held kd Q fs.toList 0) : Opens enc P w base spare held kd Q t := by
  intro fuel cs x h hw
  obtain ⟨xs, m, _, rfl, hl, hlen, hi⟩ := DataW.trod_struct ht h
  obtain ⟨a, ha, hq⟩ := hf m cs xs (by omega) (by simpa using hlen) (fun i f hf => hi i f (by simpa using hf)) (fun i f x hf hx n hn => hw n (by
    simp only [DataW.weights, ht]
    exact weights_fields hf hx n hn))
  exact ⟨a, by simpa using ha, hq⟩
theorem opens_iso {α β : Type} {kd : Kd α} {Q : α → Prop} {t : TypeId} {f : β → α} (g : α → β) (hg : ∀ a, f (g a) = a) (ho : Opens enc P w base spare held kd Q t) : Opens enc P w base spare held (Kd.iso kd f) (fun b => Q (f b)) t := by
  intro n cs x h hw
  obtain ⟨a, ha, hq⟩ := ho n cs x h hw
  exact ⟨g a, by show kd.K w (f (g a)) cs; rw [hg]; exact ha, by show Q (f (g a)); rw [hg]; exact hq⟩
theorem opens_mono {α : Type} {kd : Kd α} {Q Q' : α → Prop} {t : TypeId} (ho : Opens enc P w base spare held kd Q t) (h : ∀ a, Q a → Q' a) : Opens enc P w base spare held kd Q' t := by
  intro n cs x hx hw
  obtain ⟨a, ha, hq⟩ := ho n cs x hx hw
  exact ⟨a, ha, h a hq⟩
theorem open_agg {α : Type} {kd : Kd α} {Q : α → Prop} {t : TypeId} {fs : Array Field} {r : Reach} {b0 : Nat} {v : Value} {d : DataW H} {ps : List MemPlace} (ht : P.underlying t = some (.struct fs)) (ho : Opens enc P w base spare held kd Q t)
    (hw : ∀ n ∈ d.weights P t, n ≤ reachBytes) (hval : Value.okWide P w r b0 t v) (hd : DataW.Trod enc P w base spare held t v d ps) : ∃ a cs, v = .agg ⟨cs⟩ ∧ kd.K w a cs ∧ Q a := by
  obtain ⟨⟨cs⟩, rfl, _⟩ := okWide_struct ht hval
  obtain ⟨fuel, hf⟩ := hd
  obtain ⟨a, ha, hq⟩ := ho _ _ _ hf hw
  exact ⟨a, cs, rfl, ha, hq⟩
end
end Op
end Go.Proofs.Ytfplcohjnlbfjaa.Hand
end

section
namespace Go.Proofs.Ytfplcohjnlbfjaa.Hand
open Go.ChangeShapes Go.WideShapes Go.ChangeAt Go.Joins Go.Deep Go.RowKit Go.Proofs.YtfplcohjnlbfjaaW.PrintWords Go.Proofs.YtfplcohjnlbfjaaW.PrintLast Go.Proofs.YtfplcohjnlbfjaaW.PrintMore
set_option linter.unusedVariables false
set_option maxRecDepth 20000
namespace Op
section
variable {H : Type} {enc : TypeId × Value → H} {w : World} {base : Nat} {spare : Nat → Bool} {held : Bool}
theorem opens_mref : Opens enc Try.prog w base spare held (Kd.pair Kd.string (Kd.pair Kd.string Kd.string)) (fun p => p.1.size ≤ 140737488351232 ∧ p.2.1.size ≤ 140737488351232 ∧ p.2.2.size ≤ 140737488351232) 25 :=
  opens_mono (opens_struct Try.underlying25 (by kernel_rfl) (fields_cons rfl (by kernel_rfl) (opens_str Try.underlying9) (fields_cons rfl (by kernel_rfl) (opens_str Try.underlying9) (fields_one rfl (by kernel_rfl) (opens_str Try.underlying9))))) (fun a h => h)
end
end Op
section
variable {H : Type} {enc : TypeId × Value → H} {P : Program} {w : World} {base : Nat} {spare : Nat → Bool} {held : Bool}
end
end Go.Proofs.Ytfplcohjnlbfjaa.Hand
end

section
namespace Go.Proofs.Ytfplcohjnlbfjaa.Hand
open Go.ChangeShapes Go.WideShapes Go.ChangeAt Go.Joins Go.Deep Go.RowKit Go.Proofs.YtfplcohjnlbfjaaW.PrintWords Go.Proofs.YtfplcohjnlbfjaaW.PrintLast Go.Proofs.YtfplcohjnlbfjaaW.PrintMore
set_option linter.unusedVariables false
set_option maxRecDepth 20000
namespace Op
section
variable {H : Type} {enc : TypeId × Value → H} {w : World} {base : Nat} {spare : Nat → Bool} {held : Bool}
theorem open_mref {r : Reach} {b0 : Nat} {v : Value} {d : DataW H} {ps : List MemPlace} (hw : ∀ n ∈ d.weights Try.prog 25, n ≤ reachBytes) (hval : Value.okWide Try.prog w r b0 25 v) (hd : DataW.Trod enc Try.prog w base spare held 25 v d ps) :
    ∃ a b c : ByteArray, v = .agg #[.string a, .string b, .string c] ∧ a.size ≤ 140737488351232 ∧ b.size ≤ 140737488351232 ∧ c.size ≤ 140737488351232 := by
  obtain ⟨⟨a, b, c⟩, cs, rfl, hK, hq⟩ := open_agg Try.underlying25 opens_mref hw hval hd
  obtain ⟨_, _, rfl, rfl, _, _, rfl, rfl, rfl⟩ := hK
  exact ⟨a, b, c, rfl, hq.1, hq.2.1, hq.2.2⟩
end
end Op
end Go.Proofs.Ytfplcohjnlbfjaa.Hand
end
