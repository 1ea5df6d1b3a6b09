import Derived.Test.YtaokkkolbifdpaaGreatDoorMgLegendLines3
import Derived.Deep.RegionWith
import Derived.Test.YtaokkkolbifdpaaGreatDoorMgLegendLines1
import Derived.Test.YtaokkkolbifdpaaGreatDoorProg
import Derived.Below
import Derived.Deep.Draws
import Derived.Deep.AppendLies
import Derived.Maps.AppendAt
import Derived.OwnWalk
import Derived.Laws.BytesArg
import Derived.Laws.MakeOwn
import Derived.Laws.OwnMore
import Derived.Deep.OwnRows
import Derived.Tactics
import Derived.Lib.ConvBytes
import Derived.Laws.Slices
import Derived.WalkKit
import Derived.KernelRfl
import Derived.RowKit3
import Derived.Deep.LoopGhost
import Derived.Deep.QuietTactic
import Derived.BigQuiet
import Derived.WideLaws
import Derived.Deep.DeepCutAuto
import Derived.Deep.CutBlock
import Derived.Deep.RegionHeld3
import Derived.Laws.Rows
import Derived.Lib.AppendStr
import Derived.ArgAppend
import Derived.Laws.IdiomCopy
import Derived.OrdersHeld
import Derived.Laws.BitsLemmas
import Derived.RowKit
import Derived.Test.YtaokkkolbifdpaaGreatDoorMgLegendLines0
section
namespace Go.Proofs.YtaokkkolbifdpaaGreatDoor.Q32
open Go.RowKit Go.Proofs.YtaokkkolbifdpaaGreatDoorW.PrintWords Go.Proofs.YtaokkkolbifdpaaGreatDoorW.PrintLast Go.Proofs.YtaokkkolbifdpaaGreatDoorW.PrintMore Go.Proofs.YtaokkkolbifdpaaGreatDoor.Hand
attribute [local go_sem] max2_int min2_int max_two min_two max_three min_three max_four min_four   -- for this text's walks alone
set_option linter.unusedVariables false
set_option linter.unusedSimpArgs false
mutual
def secateurref30_Read.j0 : Nat → List ByteArray → Bool → Option (ByteArray × ByteArray × ByteArray × Bool)
  | 0, _, _ => none
  | k + 1, x5, x24 => if x24 = true then (if 0 < (x5.length : Int) then (if 1 < (x5.length : Int) then (if 2 < (x5.length : Int) then (some (rdOf ByteArray.empty x5 0, rdOf ByteArray.empty x5 1, rdOf ByteArray.empty x5 2, true)) else (none)) else (none)) else (none)) else (if (x5.length : Int) = 4 then (if 0 < (x5.length : Int) then (if (rdOf ByteArray.empty x5 0).toList = ([109, 101, 116, 104, 111, 100] : List UInt8) then (if 2 < (x5.length : Int) then (if ((rdOf ByteArray.empty x5 2).size : Int) > 0 then (if 0 < ((rdOf ByteArray.empty x5 2).size : Int) then (secateurref30_Read.j1 k x5 ((bt (rdOf ByteArray.empty x5 2) 0) == 40)) else (none)) else (secateurref30_Read.j1 k x5 false)) else (none)) else (secateurref30_Read.j1 k x5 false)) else (none)) else (secateurref30_Read.j1 k x5 false))
def secateurref30_Read.j1 : Nat → List ByteArray → Bool → Option (ByteArray × ByteArray × ByteArray × Bool)
  | 0, _, _ => none
  | k + 1, x5, x57 => if x57 = true then (if 1 < (x5.length : Int) then ((secateurref30_cut.f k (rdOf ByteArray.empty x5 1)).bind fun bt152 => (if bt152.2.toList = ([] : List UInt8) then (if 0 < (x5.length : Int) then (if 2 < (x5.length : Int) then (if (rdOf ByteArray.empty x5 1).size + (rdOf ByteArray.empty x5 2).size ≤ 9223372036854775807 then (if 3 < (x5.length : Int) then (some (rdOf ByteArray.empty x5 0, (rdOf ByteArray.empty x5 1) ++ (rdOf ByteArray.empty x5 2), rdOf ByteArray.empty x5 3, true)) else (none)) else (none)) else (none)) else (none)) else (some ((⟨#[]⟩ : ByteArray), (⟨#[]⟩ : ByteArray), (⟨#[]⟩ : ByteArray), false)))) else (none)) else (some ((⟨#[]⟩ : ByteArray), (⟨#[]⟩ : ByteArray), (⟨#[]⟩ : ByteArray), false))
end
def secateurref30_Read.f (k : Nat) (a0 : ByteArray) : Option (ByteArray × ByteArray × ByteArray × Bool) := (secateurref04_Fields.f a0).bind fun t140 => (if (t140.length : Int) = 3 then (if 0 < (t140.length : Int) then (if (rdOf ByteArray.empty t140 0).toList = ([99, 108, 97, 115, 115] : List UInt8) then (secateurref30_Read.j0 k t140 true) else (secateurref30_Read.j0 k t140 ((rdOf ByteArray.empty t140 0).toList == ([102, 105, 101, 108, 100] : List UInt8)))) else (none)) else (secateurref30_Read.j0 k t140 false))
theorem secateurref30_Read.mono_l : ∀ k, (∀ y0 y1, LeO (secateurref30_Read.j0 k y0 y1) (secateurref30_Read.j0 (k + 1) y0 y1)) ∧ (∀ y0 y1, LeO (secateurref30_Read.j1 k y0 y1) (secateurref30_Read.j1 (k + 1) y0 y1))
  | 0 => ⟨fun _ _ r h => by simp [secateurref30_Read.j0] at h, fun _ _ r h => by simp [secateurref30_Read.j1] at h⟩
  | k + 1 => by
    obtain ⟨ih0, ih1⟩ := secateurref30_Read.mono_l k
    refine ⟨?_, ?_⟩
    · intro y0 y1
      unfold secateurref30_Read.j0
      repeat' first
      | (with_reducible exact ih0 _ _)
      | (with_reducible exact ih1 _ _)
      | (with_reducible exact secateurref30_cut.mono _ _)
      | (with_reducible exact LeO.refl _)
      | (with_reducible exact LeO.none _)
      | (with_reducible refine LeO.ite ?_ ?_)
      | (with_reducible refine LeO.bind ?_ (fun _ => ?_))
      | exact ih0 _ _
      | exact ih1 _ _
      | exact secateurref30_cut.mono _ _
      | exact LeO.none _
      | refine LeO.ite ?_ ?_
      | refine LeO.bind ?_ (fun _ => ?_)
    · intro y0 y1
      unfold secateurref30_Read.j1
      repeat' first
      | (with_reducible exact ih0 _ _)
      | (with_reducible exact ih1 _ _)
      | (with_reducible exact secateurref30_cut.mono _ _)
      | (with_reducible exact LeO.refl _)
      | (with_reducible exact LeO.none _)
      | (with_reducible refine LeO.ite ?_ ?_)
      | (with_reducible refine LeO.bind ?_ (fun _ => ?_))
      | exact ih0 _ _
      | exact ih1 _ _
      | exact secateurref30_cut.mono _ _
      | exact LeO.none _
      | refine LeO.ite ?_ ?_
      | refine LeO.bind ?_ (fun _ => ?_)
theorem secateurref30_Read.mono : ∀ a0 k, LeO (secateurref30_Read.f k a0) (secateurref30_Read.f (k + 1) a0) := by
  intro a0 k
  obtain ⟨ih0, ih1⟩ := secateurref30_Read.mono_l k
  unfold secateurref30_Read.f
  repeat' first
      | (with_reducible exact ih0 _ _)
      | (with_reducible exact ih1 _ _)
      | (with_reducible exact secateurref30_cut.mono _ _)
      | (with_reducible exact LeO.refl _)
      | (with_reducible exact LeO.none _)
      | (with_reducible refine LeO.ite ?_ ?_)
      | (with_reducible refine LeO.bind ?_ (fun _ => ?_))
      | exact ih0 _ _
      | exact ih1 _ _
      | exact secateurref30_cut.mono _ _
      | exact LeO.none _
      | refine LeO.ite ?_ ?_
      | refine LeO.bind ?_ (fun _ => ?_)
def secateurref30_Read.T3 : Bool × List (List Nat × List Nat) := (true, [([], []), ([0], [0]), ([1], [1]), ([], []), ([3], [3]), ([4], [4]), ([], []), ([6], [6]), ([7], [7]), ([5, 8], [5, 8]), ([2, 0, 1, 2], [2]), ([9, 10, 0, 1, 2, 3, 4, 5, 6, 7, 8, 9, 10], [9]), ([11, 0, 1, 2, 3, 4, 5, 6, 7, 8, 9, 10, 11], [])])
def secateurref30_Read.B3 : List Nat := [0, 1, 3, 0, 8, 24, 0, 64, 192, 504, 7, 2047, 4095]
theorem secateurref30_Read.tab3 : rtab .any (opsOf Tryz.f8 3) = secateurref30_Read.T3 := by kernel_rfl
theorem secateurref30_Read.bits3 : waitsOk secateurref30_Read.T3.2 secateurref30_Read.B3 = true := by kernel_rfl
def secateurref30_Read.T7 : Bool × List (List Nat × List Nat) := (true, [([], []), ([0], [0]), ([1], [1]), ([], []), ([3], [3]), ([4], [4]), ([], []), ([6], [6]), ([7], [7]), ([5, 8], [5, 8]), ([], []), ([10], [10]), ([11], [11]), ([9, 12], [9, 12]), ([2, 0, 1, 2], [2]), ([13, 14, 0, 1, 2, 3, 4, 5, 6, 7, 8, 9, 10, 11, 12, 13, 14], [13]), ([15, 0, 1, 2, 3, 4, 5, 6, 7, 8, 9, 10, 11, 12, 13, 14, 15], [])])
def secateurref30_Read.B7 : List Nat := [0, 1, 3, 0, 8, 24, 0, 64, 192, 504, 0, 1024, 3072, 8184, 7, 32767, 65535]
theorem secateurref30_Read.tab7 : rtab .any (opsOf Tryz.f8 7) = secateurref30_Read.T7 := by kernel_rfl
theorem secateurref30_Read.bits7 : waitsOk secateurref30_Read.T7.2 secateurref30_Read.B7 = true := by kernel_rfl
set_option maxHeartbeats 8000000 in
set_option maxRecDepth 100000 in
theorem secateurref30_Read.calls (k : Nat) (a0 : ByteArray) (r1 : ByteArray) (r2 : ByteArray) (r3 : ByteArray) (r4 : Bool) (w : World) (h : secateurref30_Read.f k a0 = some (r1, r2, r3, r4)) :
    Calls Tryz.prog 8 #[.string a0] w fun e w' => e = .returned (.tuple #[.string r1, .agg #[.string r2, .string r3], .bool r4]) ∧ Below w.heap.size w w' := by
  have hu23 := Tryz.underlying23
  have HB := Aside0.mk (Below.refl w.heap.size w)
  have H : ((secateurref04_Fields.f a0).bind fun t140 => (if (t140.length : Int) = 3 then (if 0 < (t140.length : Int) then (if (rdOf ByteArray.empty t140 0).toList = ([99, 108, 97, 115, 115] : List UInt8) then (secateurref30_Read.j0 k t140 true) else (secateurref30_Read.j0 k t140 ((rdOf ByteArray.empty t140 0).toList == ([102, 105, 101, 108, 100] : List UInt8)))) else (none)) else (secateurref30_Read.j0 k t140 false))) = some (r1, r2, r3, r4) := h
  clear h
  replace H := Option.bind_eq_some_iff.mp H
  obtain ⟨t140, A20, H⟩ := H
  replace H : (if (t140.length : Int) = 3 then (if 0 < (t140.length : Int) then (if (rdOf ByteArray.empty t140 0).toList = ([99, 108, 97, 115, 115] : List UInt8) then (secateurref30_Read.j0 k t140 true) else (secateurref30_Read.j0 k t140 ((rdOf ByteArray.empty t140 0).toList == ([102, 105, 101, 108, 100] : List UInt8)))) else (none)) else (secateurref30_Read.j0 k t140 false)) = some (r1, r2, r3, r4) := H
  have A2 := Aside0.mk A20
  clear A20
  have HC3 := Aside0.mk H
  clear H
  go_enter Tryz.func8, Tryz.ntmps8
  go_upto_region 2 with (first | ((with_reducible refine gate_dst (N := 3) rfl ?_); (try (refine gate_guard (by rfl) ?_; dsimp only)); refine box_event ?hg (N := 3) ?hd (cs := #[.string (⟨#[]⟩ : ByteArray), .string (⟨#[]⟩ : ByteArray)]) (t := 23) ?hr ?_; (case hd => rfl); (case hg => rfl); (case hr => first | (go_simp; done) | (go_simp; rfl)); intro gb139 hg w4 hbox hb; have n0_ := Aside0.mk (below_step (by repeat (first | (with_reducible first | exact HB.out | apply below_alloc | apply pw_below_drewN | apply below_drew1) | exact HB.out)) hb); have n1_ := Aside0.mk (hbox); have n2_ := Aside0.mk ((by rw [hg]; exact (below_size (by repeat (first | (with_reducible first | exact HB.out | apply below_alloc | apply pw_below_drewN | apply below_drew1) | exact HB.out))) : w.heap.size ≤ gb139)); have n3_ := Aside0.mk ((by rw [hg]; exact (below_size (by repeat (first | (with_reducible first | exact HB.out | apply below_alloc | apply pw_below_drewN | apply below_drew1) | exact HB.out))) : w.heap.size ≤ gb139)); clear HB; have HB := n0_; have BK139 := n1_; have GW139 := n2_; have GE139 := n3_; clear n0_ n1_ n2_ n3_; clear hb hbox hg) | ((with_reducible refine gate_callee (f := 21) rfl ?_); refine goesL_ (some 9) rfl rfl Tryz.func21 (by kernel_rfl) rfl #[.string a0] rfl (by (try simp only [List.map_toArray, List.map_cons, List.map_nil]); first | done | rfl | (simp only [List.length_drop, List.length_take]; rfl)) ?_; (with_reducible refine (secateurref04_Fields.calls a0 t140 _ A2.out).mono ?_); rintro e w5 ⟨v141, rfl, ho0, hb⟩; refine ⟨_, rfl, ?_⟩; have n0_ := Aside0.mk (Kd.R_lower ho0 (below_size (by repeat (first | (with_reducible first | exact HB.out | apply below_alloc | apply pw_below_drewN | apply below_drew1 | refine below_set ?_ GE139.out) | exact HB.out)))); have n1_ := Aside0.mk (blk_below (g := gb139) (o := .cells #[.string (⟨#[]⟩ : ByteArray), .string (⟨#[]⟩ : ByteArray)] 23 (0, 0)) (by (with_reducible repeat (first | refine blk_drewN ?_ _ | refine blk_drew ?_ | refine blk_alloc ?_ _)); exact BK139.out) hb); have n2_ := Aside0.mk (below_step (by repeat (first | (with_reducible first | exact HB.out | apply below_alloc | apply pw_below_drewN | apply below_drew1 | refine below_set ?_ GE139.out) | exact HB.out)) hb); clear BK139; clear HB; have HO142 := n0_; have BK139 := n1_; have HB := n2_; clear n0_ n1_ n2_; (try clear hb); (try clear hb2); (try clear hk); (try clear hi); (try clear ho0)))
  (try simp only [Act.put, List.setIfInBounds_toArray, List.set_cons_zero, List.set_cons_succ])
  go_cut [24] (fun v24 wc => ∃ (kq : Nat) (x24_2 : Bool), v24 = .bool x24_2 ∧ Aside0 (secateurref30_Read.j0 kq t140 x24_2 = some (r1, r2, r3, r4)) ∧ Aside0 (kq ≤ k) ∧ Aside0 (Kd.R Kd.string 9 wc w.heap.size (fun _ => True) v141 t140) ∧ Aside0 (wc.heap[gb139]? = some (.cells #[.string (⟨#[]⟩ : ByteArray), .string (⟨#[]⟩ : ByteArray)] 23 (0, 0))) ∧ Aside0 (Below w.heap.size w wc))
  case first =>
    have H := HC3.out
    clear HC3
    by_cases c6 : (t140.length : Int) = 3
    · rw [if_pos c6] at H
      have c6b0 : ((t140.length : Int) == 3) = true := beq_iff_eq.mpr c6
      have c6b1 : ((t140.length : Int) != 3) = false := bne_eq_false_iff_eq.mpr c6
      clear c6
      (first | rw [c6b0] | rw [c6b1] | (simp only [i64_w, i32_w]; rw [c6b0]) | skip)
      by_cases c7 : 0 < (t140.length : Int)
      · rw [if_pos c7] at H
        have c7b0 : decide (0 < (t140.length : Int)) = true := decide_eq_true c7
        have c7b1 : decide (0 < t140.length) = true := decide_eq_true (by omega)
        clear c7
        by_cases c8 : (rdOf ByteArray.empty t140 0).toList = ([99, 108, 97, 115, 115] : List UInt8)
        · rw [if_pos c8] at H
          have c8b0 : ((rdOf ByteArray.empty t140 0).toList == ([99, 108, 97, 115, 115] : List UInt8)) = true := beq_iff_eq.mpr c8
          have c8b1 : ((rdOf ByteArray.empty t140 0).toList != ([99, 108, 97, 115, 115] : List UInt8)) = false := bne_eq_false_iff_eq.mpr c8
          clear c8
          have H' := Aside0.mk H
          clear H
          obtain ⟨Ao9, co9, eo9⟩ := Kd.R_slice HO142.out
          subst eo9
          have p143 : 0 ≤ (0 : Int) := (by omega)
          have q143 : 0 < (t140.length : Int) := of_decide_eq_true (by first | (with_reducible assumption) | assumption)
          obtain ⟨ad143, e143, hx143_0⟩ := Kd.at_string (Kd.R_reads' HO142.out).2.2 0 p143 q143
          cases e143
          have qi143 : (0 < t140.length) = True := eq_true (by omega)
          (try rw [show ((0 : Int)).toNat = 0 from rfl] at hx143_0)
          (try rw [Addr.add_zero'] at hx143_0)
          replace p143 := eq_true p143
          replace q143 := eq_true q143
          go_wp2
          go_meet
          case rel => exact ⟨_, (true), (by first | rfl | (simp; done) | (simp [*]; done)), H', ⟨by first | omega | exact Nat.le_refl _⟩, ⟨by (with_reducible repeat (first | apply Kd.R_alloc | apply Kd.R_drewN | apply Kd.R_drew)); exact HO142.out⟩, ⟨by (with_reducible repeat (first | refine blk_drewN ?_ _ | refine blk_drew ?_ | refine blk_alloc ?_ _)); exact BK139.out⟩, ⟨by repeat (first | (with_reducible first | exact HB.out | apply below_alloc | apply pw_below_drewN | apply below_drew1 | refine below_set ?_ GE139.out) | exact HB.out)⟩⟩
        · rw [if_neg c8] at H
          have c8b0 : ((rdOf ByteArray.empty t140 0).toList == ([99, 108, 97, 115, 115] : List UInt8)) = false := beq_eq_false_iff_ne.mpr c8
          have c8b1 : ((rdOf ByteArray.empty t140 0).toList != ([99, 108, 97, 115, 115] : List UInt8)) = true := bne_iff_ne.mpr c8
          have H' := Aside0.mk H
          clear H
          obtain ⟨Ao10, co10, eo10⟩ := Kd.R_slice HO142.out
          subst eo10
          have p143 : 0 ≤ (0 : Int) := (by omega)
          have q143 : 0 < (t140.length : Int) := of_decide_eq_true (by first | (with_reducible assumption) | assumption)
          obtain ⟨ad143, e143, hx143_0⟩ := Kd.at_string (Kd.R_reads' HO142.out).2.2 0 p143 q143
          cases e143
          have qi143 : (0 < t140.length) = True := eq_true (by omega)
          (try rw [show ((0 : Int)).toNat = 0 from rfl] at hx143_0)
          (try rw [Addr.add_zero'] at hx143_0)
          replace p143 := eq_true p143
          replace q143 := eq_true q143
          have p144 : 0 ≤ (0 : Int) := (by omega)
          have q144 : 0 < (t140.length : Int) := of_decide_eq_true (by first | (with_reducible assumption) | assumption)
          obtain ⟨ad144, e144, hx144_0⟩ := Kd.at_string (Kd.R_reads' HO142.out).2.2 0 p144 q144
          obtain rfl : ad143 = ad144 := (by injection e144)
          have qi144 : (0 < t140.length) = True := eq_true (by omega)
          (try rw [show ((0 : Int)).toNat = 0 from rfl] at hx144_0)
          (try rw [Addr.add_zero'] at hx144_0)
          replace p144 := eq_true p144
          replace q144 := eq_true q144
          go_wp2
          go_meet
          case rel => exact ⟨_, (((rdOf ByteArray.empty t140 0).toList == ([102, 105, 101, 108, 100] : List UInt8))), (by first | rfl | (simp; done) | (simp [*]; done)), H', ⟨by first | omega | exact Nat.le_refl _⟩, ⟨by (with_reducible repeat (first | apply Kd.R_alloc | apply Kd.R_drewN | apply Kd.R_drew)); exact HO142.out⟩, ⟨by (with_reducible repeat (first | refine blk_drewN ?_ _ | refine blk_drew ?_ | refine blk_alloc ?_ _)); exact BK139.out⟩, ⟨by repeat (first | (with_reducible first | exact HB.out | apply below_alloc | apply pw_below_drewN | apply below_drew1 | refine below_set ?_ GE139.out) | exact HB.out)⟩⟩
      · rw [if_neg c7] at H
        exact absurd H (by simp)
    · rw [if_neg c6] at H
      have c6b0 : ((t140.length : Int) == 3) = false := beq_eq_false_iff_ne.mpr c6
      have c6b1 : ((t140.length : Int) != 3) = true := bne_iff_ne.mpr c6
      (first | rw [c6b0] | rw [c6b1] | (simp only [i64_w, i32_w]; rw [c6b0]) | skip)
      have H' := Aside0.mk H
      clear H
      obtain ⟨Ao11, co11, eo11⟩ := Kd.R_slice HO142.out
      subst eo11
      go_wp2
      go_meet
      case rel => exact ⟨_, (false), (by first | rfl | (simp; done) | (simp [*]; done)), H', ⟨by first | omega | exact Nat.le_refl _⟩, ⟨by (with_reducible repeat (first | apply Kd.R_alloc | apply Kd.R_drewN | apply Kd.R_drew)); exact HO142.out⟩, ⟨by (with_reducible repeat (first | refine blk_drewN ?_ _ | refine blk_drew ?_ | refine blk_alloc ?_ _)); exact BK139.out⟩, ⟨by repeat (first | (with_reducible first | exact HB.out | apply below_alloc | apply pw_below_drewN | apply below_drew1 | refine below_set ?_ GE139.out) | exact HB.out)⟩⟩
  case rest =>
    clear HC3
    try clear p1
    try clear q1
    try clear hx1
    try clear qi1
    try clear c2
    try clear p2
    try clear c6
    try clear c6b0
    try clear c6b1
    try clear c7
    try clear c7b0
    try clear c7b1
    try clear c8
    try clear c8b0
    try clear c8b1
    try clear hx143_0
    try clear hx144_0
    try clear p143
    try clear p144
    try clear q143
    try clear q144
    obtain ⟨kq, x24_2, rfl, HA, HJ2, HO_5, BK139, HB⟩ := hcut
    cases kq with
    | zero => exact absurd HA.out (by simp [secateurref30_Read.j0])
    | succ kj2 =>
      have H := HA.out
      clear HA
      simp only [secateurref30_Read.j0] at H
      by_cases c12 : x24_2 = true
      · subst c12
        have H1 : (if 0 < (t140.length : Int) then (if 1 < (t140.length : Int) then (if 2 < (t140.length : Int) then (some (rdOf ByteArray.empty t140 0, rdOf ByteArray.empty t140 1, rdOf ByteArray.empty t140 2, true)) else (none)) else (none)) else (none)) = some (r1, r2, r3, r4) := by rw [if_pos rfl] at H; exact H
        clear H
        have H := H1
        clear H1
        by_cases c13 : 0 < (t140.length : Int)
        · rw [if_pos c13] at H
          have c13b0 : decide (0 < (t140.length : Int)) = true := decide_eq_true c13
          have c13b1 : decide (0 < t140.length) = true := decide_eq_true (by omega)
          clear c13
          by_cases c14 : 1 < (t140.length : Int)
          · rw [if_pos c14] at H
            have c14b0 : decide (1 < (t140.length : Int)) = true := decide_eq_true c14
            have c14b1 : decide (1 < t140.length) = true := decide_eq_true (by omega)
            clear c14
            by_cases c15 : 2 < (t140.length : Int)
            · rw [if_pos c15] at H
              have c15b0 : decide (2 < (t140.length : Int)) = true := decide_eq_true c15
              have c15b1 : decide (2 < t140.length) = true := decide_eq_true (by omega)
              clear c15
              simp only [Option.some.injEq, Prod.mk.injEq] at H
              obtain ⟨rfl, rfl, rfl, rfl⟩ := H
              try go_wp2
              have n0_ := Aside0.mk (Kd.R_drew HO_5.out)
              have n1_ := Aside0.mk (blk_drew BK139.out)
              have n2_ := Aside0.mk (below_drew1 HB.out)
              clear HO_5
              clear BK139
              clear HB
              have HO_5 := n0_
              have BK139 := n1_
              have HB := n2_
              clear n0_ n1_ n2_
              obtain ⟨Ao17, co17, eo17⟩ := Kd.R_slice HO_5.out
              (first | subst eo17 | (injection eo17 with f1_ f2_ f3_; have f4_ := f1_.symm; have f5_ := f3_.symm; clear f1_ f2_ f3_; subst f4_; subst f5_))
              have p145 : 0 ≤ (0 : Int) := (by omega)
              have q145 : 0 < (t140.length : Int) := of_decide_eq_true (by first | (with_reducible assumption) | assumption)
              obtain ⟨ad145, e145, hx145_0⟩ := Kd.at_string (Kd.R_reads' HO_5.out).2.2 0 p145 q145
              cases e145
              have qi145 : (0 < t140.length) = True := eq_true (by omega)
              (try rw [show ((0 : Int)).toNat = 0 from rfl] at hx145_0)
              (try rw [Addr.add_zero'] at hx145_0)
              replace p145 := eq_true p145
              replace q145 := eq_true q145
              have p146 : 0 ≤ (1 : Int) := (by omega)
              have q146 : 1 < (t140.length : Int) := of_decide_eq_true (by first | (with_reducible assumption) | assumption)
              obtain ⟨ad146, e146, hx146_0⟩ := Kd.at_string (Kd.R_reads' HO_5.out).2.2 1 p146 q146
              obtain rfl : ad145 = ad146 := (by injection e146)
              (try simp only [show (1 : Int).toNat = 1 from rfl, Nat.reduceMul, Nat.reduceEqDiff, Go.Addr.add, ↓reduceIte] at hx146_0)
              have qi146 : (1 < t140.length) = True := eq_true (by omega)
              (try rw [show ((1 : Int)).toNat = 1 from rfl] at hx146_0)
              replace p146 := eq_true p146
              replace q146 := eq_true q146
              have p147 : 0 ≤ (2 : Int) := (by omega)
              have q147 : 2 < (t140.length : Int) := of_decide_eq_true (by first | (with_reducible assumption) | assumption)
              obtain ⟨ad147, e147, hx147_0⟩ := Kd.at_string (Kd.R_reads' HO_5.out).2.2 2 p147 q147
              obtain rfl : ad145 = ad147 := (by injection e147)
              (try simp only [show (2 : Int).toNat = 2 from rfl, Nat.reduceMul, Nat.reduceEqDiff, Go.Addr.add, ↓reduceIte] at hx147_0)
              have qi147 : (2 < t140.length) = True := eq_true (by omega)
              (try rw [show ((2 : Int)).toNat = 2 from rfl] at hx147_0)
              replace p147 := eq_true p147
              replace q147 := eq_true q147
              refine start_ (n := 13) (S := fun w' => w'.cell? ad145 = some (.string (rdOf ByteArray.empty t140 0)) ∧ w'.cell? ⟨ad145.block, ad145.off + 1, none⟩ = some (.string (rdOf ByteArray.empty t140 1)) ∧ w'.cell? ⟨ad145.block, ad145.off + 2, none⟩ = some (.string (rdOf ByteArray.empty t140 2))) (ds := []) #[false, false, false, false, false, false, false, false, false, false, false, false, false] (by kernel_rfl) rfl rfl ⟨hx145_0, hx146_0, hx147_0⟩ (fun hHeld => ?_); refine with_tabW secateurref30_Read.tab3 secateurref30_Read.bits3 (fun HT_ HW_ => ?_)
              generalize wc.drew = w16 at HO_5 BK139 HB hx145_0 hx146_0 hx147_0 hHeld ⊢
              refine pure_ (i := 0) (N := some 25) (v := ?_) (a' := ?_) #[true, false, false, false, false, false, false, false, false, false, false, false, false] rfl rfl (any_of HT_.out (by kernel_rfl)) (fun _ _ _ h => h) (Or.inl ⟨by rfl, ?_⟩) ?_ ?_
              rotate_left
              · intro w'
                go_simp
                with_reducible rfl
              rotate_left
              · simp only [Act.put, List.setIfInBounds_toArray, List.set_cons_zero, List.set_cons_succ, i64_w, i32_w]
                rfl
              refine pure_ (i := 1) (N := some 26) (v := ?_) (a' := ?_) #[true, true, false, false, false, false, false, false, false, false, false, false, false] rfl rfl (any_of HT_.out (by kernel_rfl)) (fun _ _ _ h => h) (Or.inl ⟨by rfl, ?_⟩) ?_ ?_
              rotate_left
              · intro w'
                go_simp
                with_reducible rfl
              rotate_left
              · simp only [Act.put, List.setIfInBounds_toArray, List.set_cons_zero, List.set_cons_succ, i64_w, i32_w]
                rfl
              refine pure_ (i := 3) (N := some 28) (v := ?_) (a' := ?_) #[true, true, false, true, false, false, false, false, false, false, false, false, false] rfl rfl (any_of HT_.out (by kernel_rfl)) (fun _ _ _ h => h) (Or.inl ⟨by rfl, ?_⟩) ?_ ?_
              rotate_left
              · intro w'
                go_simp
                with_reducible rfl
              rotate_left
              · simp only [Act.put, List.setIfInBounds_toArray, List.set_cons_zero, List.set_cons_succ, i64_w, i32_w]
                rfl
              refine pure_ (i := 4) (N := some 29) (v := ?_) (a' := ?_) #[true, true, false, true, true, false, false, false, false, false, false, false, false] rfl rfl (any_of HT_.out (by kernel_rfl)) (fun _ _ _ h => h) (Or.inl ⟨by rfl, ?_⟩) ?_ ?_
              rotate_left
              · intro w'
                go_simp
                with_reducible rfl
              rotate_left
              · simp only [Act.put, List.setIfInBounds_toArray, List.set_cons_zero, List.set_cons_succ, i64_w, i32_w]
                rfl
              refine pure_ (i := 6) (N := some 31) (v := ?_) (a' := ?_) #[true, true, false, true, true, false, true, false, false, false, false, false, false] rfl rfl (any_of HT_.out (by kernel_rfl)) (fun _ _ _ h => h) (Or.inl ⟨by rfl, ?_⟩) ?_ ?_
              rotate_left
              · intro w'
                go_simp
                with_reducible rfl
              rotate_left
              · simp only [Act.put, List.setIfInBounds_toArray, List.set_cons_zero, List.set_cons_succ, i64_w, i32_w]
                rfl
              refine pure_ (i := 7) (N := some 32) (v := ?_) (a' := ?_) #[true, true, false, true, true, false, true, true, false, false, false, false, false] rfl rfl (any_of HT_.out (by kernel_rfl)) (fun _ _ _ h => h) (Or.inl ⟨by rfl, ?_⟩) ?_ ?_
              rotate_left
              · intro w'
                go_simp
                with_reducible rfl
              rotate_left
              · simp only [Act.put, List.setIfInBounds_toArray, List.set_cons_zero, List.set_cons_succ, i64_w, i32_w]
                rfl
              refine take_ (i := 2) (N := some 27) (v := ?_) (a' := ?_) #[true, true, true, true, true, false, true, true, false, false, false, false, false] rfl rfl (take_ofW HT_.out HW_.out (by kernel_rfl)) (fun _ _ _ h => h) (Or.inl ⟨by rfl, ?_⟩) hHeld ?_ ?_
              rotate_left
              · rintro w' ⟨s0, s1, s2⟩
                go_simp
                with_reducible rfl
              rotate_left
              · simp only [Act.put, List.setIfInBounds_toArray, List.set_cons_zero, List.set_cons_succ, i64_w, i32_w]
                rfl
              refine pure_ (i := 10) (N := some 2) (v := ?_) (a' := ?_) #[true, true, true, true, true, false, true, true, false, false, true, false, false] rfl rfl (any_of HT_.out (by kernel_rfl)) (fun _ _ _ h => h) (Or.inl ⟨by rfl, ?_⟩) ?_ ?_
              rotate_left
              · intro w'
                go_simp
                with_reducible rfl
              rotate_left
              · simp only [Act.put, List.setIfInBounds_toArray, List.set_cons_zero, List.set_cons_succ, i64_w, i32_w]
                rfl
              refine take_ (i := 5) (N := some 30) (v := ?_) (a' := ?_) #[true, true, true, true, true, true, true, true, false, false, true, false, false] rfl rfl (take_ofW HT_.out HW_.out (by kernel_rfl)) (fun _ _ _ h => h) (Or.inl ⟨by rfl, ?_⟩) hHeld ?_ ?_
              rotate_left
              · rintro w' ⟨s0, s1, s2⟩
                go_simp
                with_reducible rfl
              rotate_left
              · simp only [Act.put, List.setIfInBounds_toArray, List.set_cons_zero, List.set_cons_succ, i64_w, i32_w]
                rfl
              refine take_ (i := 8) (N := some 33) (v := ?_) (a' := ?_) #[true, true, true, true, true, true, true, true, true, false, true, false, false] rfl rfl (take_ofW HT_.out HW_.out (by kernel_rfl)) (fun _ _ _ h => h) (Or.inl ⟨by rfl, ?_⟩) hHeld ?_ ?_
              rotate_left
              · rintro w' ⟨s0, s1, s2⟩
                go_simp
                with_reducible rfl
              rotate_left
              · simp only [Act.put, List.setIfInBounds_toArray, List.set_cons_zero, List.set_cons_succ, i64_w, i32_w]
                rfl
              refine pure_ (i := 9) (N := some 34) (v := ?_) (a' := ?_) #[true, true, true, true, true, true, true, true, true, true, true, false, false] rfl rfl (any_of HT_.out (by kernel_rfl)) (fun _ _ _ h => h) (Or.inl ⟨by rfl, ?_⟩) ?_ ?_
              rotate_left
              · intro w'
                go_simp
                with_reducible rfl
              rotate_left
              · simp only [Act.put, List.setIfInBounds_toArray, List.set_cons_zero, List.set_cons_succ, i64_w, i32_w]
                rfl
              refine one_ (i := 11) (N := none) #[true, true, true, true, true, true, true, true, true, true, true, true, false] rfl rfl (one_of HT_.out (by kernel_rfl)) (by decide) (fun K hK => ?_)
              have hs18 : w16.cell? ⟨gb139, 0, none⟩ = some (.string (⟨#[]⟩ : ByteArray)) := (blk_cell BK139.out 0).trans rfl
              have hfs18 := blk_frozen BK139.out 0
              have hs19 : w16.cell? ⟨gb139, 1, none⟩ = some (.string (⟨#[]⟩ : ByteArray)) := (blk_cell BK139.out 1).trans rfl
              have hfs19 := blk_frozen BK139.out 1
              refine skip_ (w1 := ?_) (by rfl) rfl ?_ ?_
              rotate_left
              · go_simp
                rfl
              refine hK.out _ _ ⟨((cell_far (p := ⟨gb139, _, none⟩) (by first | exact Kd.own_blk (Kd.R_ne HO_5.out BK139.out (by decide)) | (rw [add_block]; exact Kd.own_blk (Kd.R_ne HO_5.out BK139.out (by decide))) | (show (Addr.add _ _).block ≠ _; rw [add_block]; exact Kd.own_blk (Kd.R_ne HO_5.out BK139.out (by decide))) | (dsimp only; exact Kd.own_blk (Kd.R_ne HO_5.out BK139.out (by decide)))) _).trans (((cell_far (p := ⟨gb139, _, none⟩) (by first | exact Kd.own_blk (Kd.R_ne HO_5.out BK139.out (by decide)) | (rw [add_block]; exact Kd.own_blk (Kd.R_ne HO_5.out BK139.out (by decide))) | (show (Addr.add _ _).block ≠ _; rw [add_block]; exact Kd.own_blk (Kd.R_ne HO_5.out BK139.out (by decide))) | (dsimp only; exact Kd.own_blk (Kd.R_ne HO_5.out BK139.out (by decide)))) _).trans (hHeld.1)))), ((cell_far (p := ⟨gb139, _, none⟩) (by first | exact Kd.own_blk (Kd.R_ne HO_5.out BK139.out (by decide)) | (rw [add_block]; exact Kd.own_blk (Kd.R_ne HO_5.out BK139.out (by decide))) | (show (Addr.add _ _).block ≠ _; rw [add_block]; exact Kd.own_blk (Kd.R_ne HO_5.out BK139.out (by decide))) | (dsimp only; exact Kd.own_blk (Kd.R_ne HO_5.out BK139.out (by decide)))) _).trans (((cell_far (p := ⟨gb139, _, none⟩) (by first | exact Kd.own_blk (Kd.R_ne HO_5.out BK139.out (by decide)) | (rw [add_block]; exact Kd.own_blk (Kd.R_ne HO_5.out BK139.out (by decide))) | (show (Addr.add _ _).block ≠ _; rw [add_block]; exact Kd.own_blk (Kd.R_ne HO_5.out BK139.out (by decide))) | (dsimp only; exact Kd.own_blk (Kd.R_ne HO_5.out BK139.out (by decide)))) _).trans (hHeld.2.1)))), ((cell_far (p := ⟨gb139, _, none⟩) (by first | exact Kd.own_blk (Kd.R_ne HO_5.out BK139.out (by decide)) | (rw [add_block]; exact Kd.own_blk (Kd.R_ne HO_5.out BK139.out (by decide))) | (show (Addr.add _ _).block ≠ _; rw [add_block]; exact Kd.own_blk (Kd.R_ne HO_5.out BK139.out (by decide))) | (dsimp only; exact Kd.own_blk (Kd.R_ne HO_5.out BK139.out (by decide)))) _).trans (((cell_far (p := ⟨gb139, _, none⟩) (by first | exact Kd.own_blk (Kd.R_ne HO_5.out BK139.out (by decide)) | (rw [add_block]; exact Kd.own_blk (Kd.R_ne HO_5.out BK139.out (by decide))) | (show (Addr.add _ _).block ≠ _; rw [add_block]; exact Kd.own_blk (Kd.R_ne HO_5.out BK139.out (by decide))) | (dsimp only; exact Kd.own_blk (Kd.R_ne HO_5.out BK139.out (by decide)))) _).trans (hHeld.2.2))))⟩ (fun hHeld => ?_)
              clear hK K
              refine pure_ (i := 12) (N := some 4) (v := ?_) (a' := ?_) #[true, true, true, true, true, true, true, true, true, true, true, true, true] rfl rfl (any_of HT_.out (by kernel_rfl)) (fun _ _ _ h => h) (Or.inl ⟨by rfl, ?_⟩) ?_ ?_
              rotate_left
              · intro w'
                go_simp
                with_reducible rfl
              rotate_left
              · simp only [Act.put, List.setIfInBounds_toArray, List.set_cons_zero, List.set_cons_succ, i64_w, i32_w]
                rfl
              refine done_ (done_of HT_.out (by kernel_rfl)) ?_
              try go_wp2
              refine bodyPost_ret (results_list (rs := [.tmp 2, .cell 3 23, .tmp 4]) rfl (by simp) (.tmp (.cell gb139 23 #[.string (rdOf ByteArray.empty t140 1), .string (rdOf ByteArray.empty t140 2)] (0, 0) _ rfl (by (with_reducible repeat (first | refine blk_drewN ?_ _ | refine blk_drew ?_ | refine blk_alloc ?_ _)); refine blk_put (cs := #[.string (rdOf ByteArray.empty t140 1), .string (⟨#[]⟩ : ByteArray)]) ?_ 1 _ rfl; (with_reducible repeat (first | refine blk_drewN ?_ _ | refine blk_drew ?_ | refine blk_alloc ?_ _)); refine blk_put (cs := #[.string (⟨#[]⟩ : ByteArray), .string (⟨#[]⟩ : ByteArray)]) ?_ 0 _ rfl; (with_reducible repeat (first | refine blk_drewN ?_ _ | refine blk_drew ?_ | refine blk_alloc ?_ _)); exact BK139.out) Tryz.underlying23 rfl (by kernel_rfl) (.tmp .nil)))) rfl ?_
              exact ⟨by first | rfl | (simp [errW_none, errW_some] <;> rfl) | (simp [*, errW_none, errW_some] <;> rfl), by repeat (first | (with_reducible first | exact HB.out | apply below_alloc | apply pw_below_drewN | apply below_drew1 | refine below_set ?_ GE139.out) | exact HB.out)⟩
            · rw [if_neg c15] at H
              exact absurd H (by simp)
          · rw [if_neg c14] at H
            exact absurd H (by simp)
        · rw [if_neg c13] at H
          exact absurd H (by simp)
      · replace c12 := Bool.eq_false_iff.mpr c12
        subst c12
        have H1 : (if (t140.length : Int) = 4 then (if 0 < (t140.length : Int) then (if (rdOf ByteArray.empty t140 0).toList = ([109, 101, 116, 104, 111, 100] : List UInt8) then (if 2 < (t140.length : Int) then (if ((rdOf ByteArray.empty t140 2).size : Int) > 0 then (if 0 < ((rdOf ByteArray.empty t140 2).size : Int) then (secateurref30_Read.j1 kj2 t140 ((bt (rdOf ByteArray.empty t140 2) 0) == 40)) else (none)) else (secateurref30_Read.j1 kj2 t140 false)) else (none)) else (secateurref30_Read.j1 kj2 t140 false)) else (none)) else (secateurref30_Read.j1 kj2 t140 false)) = some (r1, r2, r3, r4) := by rw [if_neg (show ¬ (false = true) by decide)] at H; exact H
        clear H
        have H := H1
        clear H1
        have HC20 := Aside0.mk H
        clear H
        go_upto_region 4 with (fail)
        go_cut [57] (fun v57 wc => ∃ (kq : Nat) (x57_19 : Bool), v57 = .bool x57_19 ∧ Aside0 (secateurref30_Read.j1 kq t140 x57_19 = some (r1, r2, r3, r4)) ∧ Aside0 (kq ≤ kj2) ∧ Aside0 (Kd.R Kd.string 9 wc w.heap.size (fun _ => True) v141 t140) ∧ Aside0 (wc.heap[gb139]? = some (.cells #[.string (⟨#[]⟩ : ByteArray), .string (⟨#[]⟩ : ByteArray)] 23 (0, 0))) ∧ Aside0 (Below w.heap.size w wc))
        case first =>
          have H := HC20.out
          clear HC20
          by_cases c21 : (t140.length : Int) = 4
          · rw [if_pos c21] at H
            have c21b0 : ((t140.length : Int) == 4) = true := beq_iff_eq.mpr c21
            have c21b1 : ((t140.length : Int) != 4) = false := bne_eq_false_iff_eq.mpr c21
            clear c21
            (first | rw [c21b0] | rw [c21b1] | (simp only [i64_w, i32_w]; rw [c21b0]) | skip)
            by_cases c22 : 0 < (t140.length : Int)
            · rw [if_pos c22] at H
              have c22b0 : decide (0 < (t140.length : Int)) = true := decide_eq_true c22
              have c22b1 : decide (0 < t140.length) = true := decide_eq_true (by omega)
              clear c22
              by_cases c23 : (rdOf ByteArray.empty t140 0).toList = ([109, 101, 116, 104, 111, 100] : List UInt8)
              · rw [if_pos c23] at H
                have c23b0 : ((rdOf ByteArray.empty t140 0).toList == ([109, 101, 116, 104, 111, 100] : List UInt8)) = true := beq_iff_eq.mpr c23
                have c23b1 : ((rdOf ByteArray.empty t140 0).toList != ([109, 101, 116, 104, 111, 100] : List UInt8)) = false := bne_eq_false_iff_eq.mpr c23
                clear c23
                by_cases c24 : 2 < (t140.length : Int)
                · rw [if_pos c24] at H
                  have c24b0 : decide (2 < (t140.length : Int)) = true := decide_eq_true c24
                  have c24b1 : decide (2 < t140.length) = true := decide_eq_true (by omega)
                  clear c24
                  by_cases c25 : ((rdOf ByteArray.empty t140 2).size : Int) > 0
                  · rw [if_pos c25] at H
                    have c25b0 : decide (0 < ((rdOf ByteArray.empty t140 2).size : Int)) = true := decide_eq_true c25
                    have c25b1 : decide (0 < (rdOf ByteArray.empty t140 2).size) = true := decide_eq_true (by omega)
                    clear c25
                    by_cases c26 : 0 < ((rdOf ByteArray.empty t140 2).size : Int)
                    · rw [if_pos c26] at H
                      have c26b0 : decide (0 < ((rdOf ByteArray.empty t140 2).size : Int)) = true := decide_eq_true c26
                      have c26b1 : decide (0 < (rdOf ByteArray.empty t140 2).size) = true := decide_eq_true (by omega)
                      clear c26
                      have H' := Aside0.mk H
                      clear H
                      obtain ⟨Ao28, co28, eo28⟩ := Kd.R_slice HO_5.out
                      subst eo28
                      have p148 : 0 ≤ (0 : Int) := (by omega)
                      have q148 : 0 < (t140.length : Int) := of_decide_eq_true (by first | (with_reducible assumption) | assumption)
                      obtain ⟨ad148, e148, hx148_0⟩ := Kd.at_string (Kd.R_reads' HO_5.out).2.2 0 p148 q148
                      cases e148
                      have qi148 : (0 < t140.length) = True := eq_true (by omega)
                      (try rw [show ((0 : Int)).toNat = 0 from rfl] at hx148_0)
                      (try rw [Addr.add_zero'] at hx148_0)
                      replace p148 := eq_true p148
                      replace q148 := eq_true q148
                      have p149 : 0 ≤ (2 : Int) := (by omega)
                      have q149 : 2 < (t140.length : Int) := of_decide_eq_true (by first | (with_reducible assumption) | assumption)
                      obtain ⟨ad149, e149, hx149_0⟩ := Kd.at_string (Kd.R_reads' HO_5.out).2.2 2 p149 q149
                      obtain rfl : ad148 = ad149 := (by injection e149)
                      (try simp only [show (2 : Int).toNat = 2 from rfl, Nat.reduceMul, Nat.reduceEqDiff, Go.Addr.add, ↓reduceIte] at hx149_0)
                      have qi149 : (2 < t140.length) = True := eq_true (by omega)
                      (try rw [show ((2 : Int)).toNat = 2 from rfl] at hx149_0)
                      replace p149 := eq_true p149
                      replace q149 := eq_true q149
                      have p150 : 0 ≤ (2 : Int) := (by omega)
                      have q150 : 2 < (t140.length : Int) := of_decide_eq_true (by first | (with_reducible assumption) | assumption)
                      obtain ⟨ad150, e150, hx150_0⟩ := Kd.at_string (Kd.R_reads' HO_5.out).2.2 2 p150 q150
                      obtain rfl : ad148 = ad150 := (by injection e150)
                      (try simp only [show (2 : Int).toNat = 2 from rfl, Nat.reduceMul, Nat.reduceEqDiff, Go.Addr.add, ↓reduceIte] at hx150_0)
                      have qi150 : (2 < t140.length) = True := eq_true (by omega)
                      (try rw [show ((2 : Int)).toNat = 2 from rfl] at hx150_0)
                      replace p150 := eq_true p150
                      replace q150 := eq_true q150
                      have p27 : 0 ≤ (0 : Int) := (by omega)
                      have q27 : 0 < (rdOf ByteArray.empty t140 2).size := (by have : (0 : Int) < ((rdOf ByteArray.empty t140 2).size : Int) := of_decide_eq_true (by first | (with_reducible assumption) | assumption); omega)
                      have hx27 : ∀ h : 0 < (rdOf ByteArray.empty t140 2).size, (((rdOf ByteArray.empty t140 2)[0]'h).toNat : Int) = bt (rdOf ByteArray.empty t140 2) 0 := bt_at (rdOf ByteArray.empty t140 2) 0
                      clear p27
                      have qi27 : (0 < ((rdOf ByteArray.empty t140 2).size : Int)) = True := eq_true (of_decide_eq_true (by first | (with_reducible assumption) | assumption))
                      replace q27 := eq_true q27
                      go_wp2
                      go_meet
                      case rel => exact ⟨_, (((bt (rdOf ByteArray.empty t140 2) 0) == 40)), (by first | rfl | (simp; done) | (simp [*]; done)), H', ⟨by have := HJ2.out; first | omega | exact Nat.le_refl _⟩, ⟨by (with_reducible repeat (first | apply Kd.R_alloc | apply Kd.R_drewN | apply Kd.R_drew)); exact HO_5.out⟩, ⟨by (with_reducible repeat (first | refine blk_drewN ?_ _ | refine blk_drew ?_ | refine blk_alloc ?_ _)); exact BK139.out⟩, ⟨by repeat (first | (with_reducible first | exact HB.out | apply below_alloc | apply pw_below_drewN | apply below_drew1 | refine below_set ?_ GE139.out) | exact HB.out)⟩⟩
                    · rw [if_neg c26] at H
                      exact absurd H (by simp)
                  · rw [if_neg c25] at H
                    have c25b0 : decide (0 < ((rdOf ByteArray.empty t140 2).size : Int)) = false := decide_eq_false c25
                    have c25b1 : decide (0 < (rdOf ByteArray.empty t140 2).size) = false := decide_eq_false (by omega)
                    clear c25
                    have H' := Aside0.mk H
                    clear H
                    obtain ⟨Ao29, co29, eo29⟩ := Kd.R_slice HO_5.out
                    subst eo29
                    have p148 : 0 ≤ (0 : Int) := (by omega)
                    have q148 : 0 < (t140.length : Int) := of_decide_eq_true (by first | (with_reducible assumption) | assumption)
                    obtain ⟨ad148, e148, hx148_0⟩ := Kd.at_string (Kd.R_reads' HO_5.out).2.2 0 p148 q148
                    cases e148
                    have qi148 : (0 < t140.length) = True := eq_true (by omega)
                    (try rw [show ((0 : Int)).toNat = 0 from rfl] at hx148_0)
                    (try rw [Addr.add_zero'] at hx148_0)
                    replace p148 := eq_true p148
                    replace q148 := eq_true q148
                    have p149 : 0 ≤ (2 : Int) := (by omega)
                    have q149 : 2 < (t140.length : Int) := of_decide_eq_true (by first | (with_reducible assumption) | assumption)
                    obtain ⟨ad149, e149, hx149_0⟩ := Kd.at_string (Kd.R_reads' HO_5.out).2.2 2 p149 q149
                    obtain rfl : ad148 = ad149 := (by injection e149)
                    (try simp only [show (2 : Int).toNat = 2 from rfl, Nat.reduceMul, Nat.reduceEqDiff, Go.Addr.add, ↓reduceIte] at hx149_0)
                    have qi149 : (2 < t140.length) = True := eq_true (by omega)
                    (try rw [show ((2 : Int)).toNat = 2 from rfl] at hx149_0)
                    replace p149 := eq_true p149
                    replace q149 := eq_true q149
                    go_wp2
                    go_meet
                    case rel => exact ⟨_, (false), (by first | rfl | (simp; done) | (simp [*]; done)), H', ⟨by have := HJ2.out; first | omega | exact Nat.le_refl _⟩, ⟨by (with_reducible repeat (first | apply Kd.R_alloc | apply Kd.R_drewN | apply Kd.R_drew)); exact HO_5.out⟩, ⟨by (with_reducible repeat (first | refine blk_drewN ?_ _ | refine blk_drew ?_ | refine blk_alloc ?_ _)); exact BK139.out⟩, ⟨by repeat (first | (with_reducible first | exact HB.out | apply below_alloc | apply pw_below_drewN | apply below_drew1 | refine below_set ?_ GE139.out) | exact HB.out)⟩⟩
                · rw [if_neg c24] at H
                  exact absurd H (by simp)
              · rw [if_neg c23] at H
                have c23b0 : ((rdOf ByteArray.empty t140 0).toList == ([109, 101, 116, 104, 111, 100] : List UInt8)) = false := beq_eq_false_iff_ne.mpr c23
                have c23b1 : ((rdOf ByteArray.empty t140 0).toList != ([109, 101, 116, 104, 111, 100] : List UInt8)) = true := bne_iff_ne.mpr c23
                have H' := Aside0.mk H
                clear H
                obtain ⟨Ao30, co30, eo30⟩ := Kd.R_slice HO_5.out
                subst eo30
                have p148 : 0 ≤ (0 : Int) := (by omega)
                have q148 : 0 < (t140.length : Int) := of_decide_eq_true (by first | (with_reducible assumption) | assumption)
                obtain ⟨ad148, e148, hx148_0⟩ := Kd.at_string (Kd.R_reads' HO_5.out).2.2 0 p148 q148
                cases e148
                have qi148 : (0 < t140.length) = True := eq_true (by omega)
                (try rw [show ((0 : Int)).toNat = 0 from rfl] at hx148_0)
                (try rw [Addr.add_zero'] at hx148_0)
                replace p148 := eq_true p148
                replace q148 := eq_true q148
                go_wp2
                go_meet
                case rel => exact ⟨_, (false), (by first | rfl | (simp; done) | (simp [*]; done)), H', ⟨by have := HJ2.out; first | omega | exact Nat.le_refl _⟩, ⟨by (with_reducible repeat (first | apply Kd.R_alloc | apply Kd.R_drewN | apply Kd.R_drew)); exact HO_5.out⟩, ⟨by (with_reducible repeat (first | refine blk_drewN ?_ _ | refine blk_drew ?_ | refine blk_alloc ?_ _)); exact BK139.out⟩, ⟨by repeat (first | (with_reducible first | exact HB.out | apply below_alloc | apply pw_below_drewN | apply below_drew1 | refine below_set ?_ GE139.out) | exact HB.out)⟩⟩
            · rw [if_neg c22] at H
              exact absurd H (by simp)
          · rw [if_neg c21] at H
            have c21b0 : ((t140.length : Int) == 4) = false := beq_eq_false_iff_ne.mpr c21
            have c21b1 : ((t140.length : Int) != 4) = true := bne_iff_ne.mpr c21
            (first | rw [c21b0] | rw [c21b1] | (simp only [i64_w, i32_w]; rw [c21b0]) | skip)
            have H' := Aside0.mk H
            clear H
            obtain ⟨Ao31, co31, eo31⟩ := Kd.R_slice HO_5.out
            subst eo31
            go_wp2
            go_meet
            case rel => exact ⟨_, (false), (by first | rfl | (simp; done) | (simp [*]; done)), H', ⟨by have := HJ2.out; first | omega | exact Nat.le_refl _⟩, ⟨by (with_reducible repeat (first | apply Kd.R_alloc | apply Kd.R_drewN | apply Kd.R_drew)); exact HO_5.out⟩, ⟨by (with_reducible repeat (first | refine blk_drewN ?_ _ | refine blk_drew ?_ | refine blk_alloc ?_ _)); exact BK139.out⟩, ⟨by repeat (first | (with_reducible first | exact HB.out | apply below_alloc | apply pw_below_drewN | apply below_drew1 | refine below_set ?_ GE139.out) | exact HB.out)⟩⟩
        case rest =>
          clear HC20
          try clear c1
          try clear p1
          try clear q1
          try clear hx1
          try clear qi1
          try clear c2
          try clear p2
          try clear q2
          try clear hx2
          try clear qi2
          try clear c6
          try clear c6b0
          try clear c6b1
          try clear c7
          try clear c7b0
          try clear c7b1
          try clear c8
          try clear c8b0
          try clear c8b1
          try clear c12
          try clear c13
          try clear c13b0
          try clear c13b1
          try clear c14
          try clear c14b0
          try clear c14b1
          try clear p14
          try clear q14
          try clear hx14
          try clear qi14
          try clear c15
          try clear c15b0
          try clear c15b1
          try clear p15
          try clear q15
          try clear hx15
          try clear qi15
          try clear c21
          try clear c21b0
          try clear c21b1
          try clear c22
          try clear c22b0
          try clear c22b1
          try clear c23
          try clear c23b0
          try clear c23b1
          try clear c24
          try clear c24b0
          try clear c24b1
          try clear c25
          try clear c25b0
          try clear c25b1
          try clear c26
          try clear c26b0
          try clear c26b1
          try clear p27
          try clear q27
          try clear hx27
          try clear qi27
          try clear hx143_0
          try clear hx144_0
          try clear hx145_0
          try clear hx146_0
          try clear hx147_0
          try clear hx148_0
          try clear hx149_0
          try clear hx150_0
          try clear p1
          try clear p143
          try clear p144
          try clear p145
          try clear p146
          try clear p147
          try clear p148
          try clear p149
          try clear p150
          try clear p2
          try clear p27
          try clear q1
          try clear q143
          try clear q144
          try clear q145
          try clear q146
          try clear q147
          try clear q148
          try clear q149
          try clear q150
          try clear q27
          obtain ⟨kq, x57_19, rfl, HA, HJ19, HO_5, BK139, HB⟩ := hcut
          cases kq with
          | zero => exact absurd HA.out (by simp [secateurref30_Read.j1])
          | succ kj19 =>
            have H := HA.out
            clear HA
            simp only [secateurref30_Read.j1] at H
            by_cases c32 : x57_19 = true
            · subst c32
              have H1 : (if 1 < (t140.length : Int) then ((secateurref30_cut.f kj19 (rdOf ByteArray.empty t140 1)).bind fun bt152 => (if bt152.2.toList = ([] : List UInt8) then (if 0 < (t140.length : Int) then (if 2 < (t140.length : Int) then (if (rdOf ByteArray.empty t140 1).size + (rdOf ByteArray.empty t140 2).size ≤ 9223372036854775807 then (if 3 < (t140.length : Int) then (some (rdOf ByteArray.empty t140 0, (rdOf ByteArray.empty t140 1) ++ (rdOf ByteArray.empty t140 2), rdOf ByteArray.empty t140 3, true)) else (none)) else (none)) else (none)) else (none)) else (some ((⟨#[]⟩ : ByteArray), (⟨#[]⟩ : ByteArray), (⟨#[]⟩ : ByteArray), false)))) else (none)) = some (r1, r2, r3, r4) := by rw [if_pos rfl] at H; exact H
              clear H
              have H := H1
              clear H1
              by_cases c33 : 1 < (t140.length : Int)
              · rw [if_pos c33] at H
                have c33b0 : decide (1 < (t140.length : Int)) = true := decide_eq_true c33
                have c33b1 : decide (1 < t140.length) = true := decide_eq_true (by omega)
                clear c33
                replace H := Option.bind_eq_some_iff.mp H
                obtain ⟨⟨t152, t153⟩, A340, H⟩ := H
                replace H : (if t153.toList = ([] : List UInt8) then (if 0 < (t140.length : Int) then (if 2 < (t140.length : Int) then (if (rdOf ByteArray.empty t140 1).size + (rdOf ByteArray.empty t140 2).size ≤ 9223372036854775807 then (if 3 < (t140.length : Int) then (some (rdOf ByteArray.empty t140 0, (rdOf ByteArray.empty t140 1) ++ (rdOf ByteArray.empty t140 2), rdOf ByteArray.empty t140 3, true)) else (none)) else (none)) else (none)) else (none)) else (some ((⟨#[]⟩ : ByteArray), (⟨#[]⟩ : ByteArray), (⟨#[]⟩ : ByteArray), false))) = some (r1, r2, r3, r4) := H
                have A34 := Aside0.mk A340
                clear A340
                by_cases c35 : t153.toList = ([] : List UInt8)
                · rw [if_pos c35] at H
                  have c35b0 : (t153.toList == ([] : List UInt8)) = true := beq_iff_eq.mpr c35
                  have c35b1 : (t153.toList != ([] : List UInt8)) = false := bne_eq_false_iff_eq.mpr c35
                  clear c35
                  by_cases c36 : 0 < (t140.length : Int)
                  · rw [if_pos c36] at H
                    have c36b0 : decide (0 < (t140.length : Int)) = true := decide_eq_true c36
                    have c36b1 : decide (0 < t140.length) = true := decide_eq_true (by omega)
                    clear c36
                    by_cases c37 : 2 < (t140.length : Int)
                    · rw [if_pos c37] at H
                      have c37b0 : decide (2 < (t140.length : Int)) = true := decide_eq_true c37
                      have c37b1 : decide (2 < t140.length) = true := decide_eq_true (by omega)
                      clear c37
                      by_cases c38 : (rdOf ByteArray.empty t140 1).size + (rdOf ByteArray.empty t140 2).size ≤ 9223372036854775807
                      · rw [if_pos c38] at H
                        have c38b0 := eq_true c38
                        have c38b1 : decide ((rdOf ByteArray.empty t140 1).size + (rdOf ByteArray.empty t140 2).size ≤ 9223372036854775807) = true := decide_eq_true c38
                        try have c38b2 : (9223372036854775807 < (rdOf ByteArray.empty t140 1).size + (rdOf ByteArray.empty t140 2).size) = False := eq_false (Nat.not_lt.2 c38)
                        by_cases c39 : 3 < (t140.length : Int)
                        · rw [if_pos c39] at H
                          have c39b0 : decide (3 < (t140.length : Int)) = true := decide_eq_true c39
                          have c39b1 : decide (3 < t140.length) = true := decide_eq_true (by omega)
                          clear c39
                          simp only [Option.some.injEq, Prod.mk.injEq] at H
                          obtain ⟨rfl, rfl, rfl, rfl⟩ := H
                          obtain ⟨Ao40, co40, eo40⟩ := Kd.R_slice HO_5.out
                          subst eo40
                          have p151 : 0 ≤ (1 : Int) := (by omega)
                          have q151 : 1 < (t140.length : Int) := of_decide_eq_true (by first | (with_reducible assumption) | assumption)
                          obtain ⟨ad151, e151, hx151_0⟩ := Kd.at_string (Kd.R_reads' HO_5.out).2.2 1 p151 q151
                          cases e151
                          (try simp only [show (1 : Int).toNat = 1 from rfl, Nat.reduceMul, Nat.reduceEqDiff, Go.Addr.add, ↓reduceIte] at hx151_0)
                          have qi151 : (1 < t140.length) = True := eq_true (by omega)
                          (try rw [show ((1 : Int)).toNat = 1 from rfl] at hx151_0)
                          replace p151 := eq_true p151
                          replace q151 := eq_true q151
                          try go_wp2_with (first | ((with_reducible refine gate_callee (f := 22) rfl ?_); refine goesL_ (some 62) rfl rfl Tryz.func22 (by kernel_rfl) rfl #[.string (rdOf ByteArray.empty t140 1)] rfl (by (try simp only [List.map_toArray, List.map_cons, List.map_nil]); first | done | rfl | (simp only [List.length_drop, List.length_take]; rfl)) ?_; (with_reducible refine (secateurref30_cut.calls kj19 (rdOf ByteArray.empty t140 1) t152 t153 _ A34.out).mono ?_); rintro e w' ⟨rfl, ⟨nd, rfl⟩⟩; refine ⟨_, rfl, ?_⟩; (try (rw [drewN_self wc]; generalize hq_ : World.drewN wc _ = wc; have n0_ : Aside0 (Kd.R Kd.string 9 wc w.heap.size (fun _ => True) (.slice (some ad151) t140.length co40) t140) := ⟨by rw [← hq_]; exact (by (with_reducible repeat (first | apply Kd.R_alloc | apply Kd.R_drewN | apply Kd.R_drew)); exact HO_5.out)⟩; have n1_ : Aside0 (wc.heap[gb139]? = some (.cells #[.string (⟨#[]⟩ : ByteArray), .string (⟨#[]⟩ : ByteArray)] 23 (0, 0))) := ⟨by rw [← hq_]; exact (by (with_reducible repeat (first | refine blk_drewN ?_ _ | refine blk_drew ?_ | refine blk_alloc ?_ _)); exact BK139.out)⟩; have n2_ : Aside0 (Below w.heap.size w wc) := ⟨by rw [← hq_]; exact (by repeat (first | (with_reducible first | exact HB.out | apply below_alloc | apply pw_below_drewN | apply below_drew1 | refine below_set ?_ GE139.out) | exact HB.out))⟩; clear HO_5 BK139 HB hq_; have HO_5 := n0_; have BK139 := n1_; have HB := n2_; clear n0_ n1_ n2_))))
                          have n0_ := Aside0.mk (Kd.R_drew HO_5.out)
                          have n1_ := Aside0.mk (blk_drew BK139.out)
                          have n2_ := Aside0.mk (below_drew1 HB.out)
                          clear HO_5
                          clear BK139
                          clear HB
                          have HO_5 := n0_
                          have BK139 := n1_
                          have HB := n2_
                          clear n0_ n1_ n2_
                          have p154 : 0 ≤ (0 : Int) := (by omega)
                          have q154 : 0 < (t140.length : Int) := of_decide_eq_true (by first | (with_reducible assumption) | assumption)
                          obtain ⟨ad154, e154, hx154_0⟩ := Kd.at_string (Kd.R_reads' HO_5.out).2.2 0 p154 q154
                          obtain rfl : ad151 = ad154 := (by injection e154)
                          have qi154 : (0 < t140.length) = True := eq_true (by omega)
                          (try rw [show ((0 : Int)).toNat = 0 from rfl] at hx154_0)
                          (try rw [Addr.add_zero'] at hx154_0)
                          replace p154 := eq_true p154
                          replace q154 := eq_true q154
                          have p155 : 0 ≤ (1 : Int) := (by omega)
                          have q155 : 1 < (t140.length : Int) := of_decide_eq_true (by first | (with_reducible assumption) | assumption)
                          obtain ⟨ad155, e155, hx155_0⟩ := Kd.at_string (Kd.R_reads' HO_5.out).2.2 1 p155 q155
                          obtain rfl : ad151 = ad155 := (by injection e155)
                          (try simp only [show (1 : Int).toNat = 1 from rfl, Nat.reduceMul, Nat.reduceEqDiff, Go.Addr.add, ↓reduceIte] at hx155_0)
                          have qi155 : (1 < t140.length) = True := eq_true (by omega)
                          (try rw [show ((1 : Int)).toNat = 1 from rfl] at hx155_0)
                          replace p155 := eq_true p155
                          replace q155 := eq_true q155
                          have p156 : 0 ≤ (2 : Int) := (by omega)
                          have q156 : 2 < (t140.length : Int) := of_decide_eq_true (by first | (with_reducible assumption) | assumption)
                          obtain ⟨ad156, e156, hx156_0⟩ := Kd.at_string (Kd.R_reads' HO_5.out).2.2 2 p156 q156
                          obtain rfl : ad151 = ad156 := (by injection e156)
                          (try simp only [show (2 : Int).toNat = 2 from rfl, Nat.reduceMul, Nat.reduceEqDiff, Go.Addr.add, ↓reduceIte] at hx156_0)
                          have qi156 : (2 < t140.length) = True := eq_true (by omega)
                          (try rw [show ((2 : Int)).toNat = 2 from rfl] at hx156_0)
                          replace p156 := eq_true p156
                          replace q156 := eq_true q156
                          have p157 : 0 ≤ (3 : Int) := (by omega)
                          have q157 : 3 < (t140.length : Int) := of_decide_eq_true (by first | (with_reducible assumption) | assumption)
                          obtain ⟨ad157, e157, hx157_0⟩ := Kd.at_string (Kd.R_reads' HO_5.out).2.2 3 p157 q157
                          obtain rfl : ad151 = ad157 := (by injection e157)
                          (try simp only [show (3 : Int).toNat = 3 from rfl, Nat.reduceMul, Nat.reduceEqDiff, Go.Addr.add, ↓reduceIte] at hx157_0)
                          have qi157 : (3 < t140.length) = True := eq_true (by omega)
                          (try rw [show ((3 : Int)).toNat = 3 from rfl] at hx157_0)
                          replace p157 := eq_true p157
                          replace q157 := eq_true q157
                          refine start_ (n := 17) (S := fun w' => w'.cell? ad151 = some (.string (rdOf ByteArray.empty t140 0)) ∧ w'.cell? ⟨ad151.block, ad151.off + 1, none⟩ = some (.string (rdOf ByteArray.empty t140 1)) ∧ w'.cell? ⟨ad151.block, ad151.off + 2, none⟩ = some (.string (rdOf ByteArray.empty t140 2)) ∧ w'.cell? ⟨ad151.block, ad151.off + 3, none⟩ = some (.string (rdOf ByteArray.empty t140 3))) (ds := []) #[false, false, false, false, false, false, false, false, false, false, false, false, false, false, false, false, false] (by kernel_rfl) rfl rfl ⟨hx154_0, hx155_0, hx156_0, hx157_0⟩ (fun hHeld => ?_); refine with_tabW secateurref30_Read.tab7 secateurref30_Read.bits7 (fun HT_ HW_ => ?_)
                          generalize wc.drew = w41 at HO_5 BK139 HB hx154_0 hx155_0 hx156_0 hx157_0 hHeld ⊢
                          refine pure_ (i := 0) (N := some 67) (v := ?_) (a' := ?_) #[true, false, false, false, false, false, false, false, false, false, false, false, false, false, false, false, false] rfl rfl (any_of HT_.out (by kernel_rfl)) (fun _ _ _ h => h) (Or.inl ⟨by rfl, ?_⟩) ?_ ?_
                          rotate_left
                          · intro w'
                            go_simp
                            with_reducible rfl
                          rotate_left
                          · simp only [Act.put, List.setIfInBounds_toArray, List.set_cons_zero, List.set_cons_succ, i64_w, i32_w]
                            rfl
                          refine pure_ (i := 1) (N := some 68) (v := ?_) (a' := ?_) #[true, true, false, false, false, false, false, false, false, false, false, false, false, false, false, false, false] rfl rfl (any_of HT_.out (by kernel_rfl)) (fun _ _ _ h => h) (Or.inl ⟨by rfl, ?_⟩) ?_ ?_
                          rotate_left
                          · intro w'
                            go_simp
                            with_reducible rfl
                          rotate_left
                          · simp only [Act.put, List.setIfInBounds_toArray, List.set_cons_zero, List.set_cons_succ, i64_w, i32_w]
                            rfl
                          refine pure_ (i := 3) (N := some 70) (v := ?_) (a' := ?_) #[true, true, false, true, false, false, false, false, false, false, false, false, false, false, false, false, false] rfl rfl (any_of HT_.out (by kernel_rfl)) (fun _ _ _ h => h) (Or.inl ⟨by rfl, ?_⟩) ?_ ?_
                          rotate_left
                          · intro w'
                            go_simp
                            with_reducible rfl
                          rotate_left
                          · simp only [Act.put, List.setIfInBounds_toArray, List.set_cons_zero, List.set_cons_succ, i64_w, i32_w]
                            rfl
                          refine pure_ (i := 4) (N := some 71) (v := ?_) (a' := ?_) #[true, true, false, true, true, false, false, false, false, false, false, false, false, false, false, false, false] rfl rfl (any_of HT_.out (by kernel_rfl)) (fun _ _ _ h => h) (Or.inl ⟨by rfl, ?_⟩) ?_ ?_
                          rotate_left
                          · intro w'
                            go_simp
                            with_reducible rfl
                          rotate_left
                          · simp only [Act.put, List.setIfInBounds_toArray, List.set_cons_zero, List.set_cons_succ, i64_w, i32_w]
                            rfl
                          refine pure_ (i := 6) (N := some 73) (v := ?_) (a' := ?_) #[true, true, false, true, true, false, true, false, false, false, false, false, false, false, false, false, false] rfl rfl (any_of HT_.out (by kernel_rfl)) (fun _ _ _ h => h) (Or.inl ⟨by rfl, ?_⟩) ?_ ?_
                          rotate_left
                          · intro w'
                            go_simp
                            with_reducible rfl
                          rotate_left
                          · simp only [Act.put, List.setIfInBounds_toArray, List.set_cons_zero, List.set_cons_succ, i64_w, i32_w]
                            rfl
                          refine pure_ (i := 7) (N := some 74) (v := ?_) (a' := ?_) #[true, true, false, true, true, false, true, true, false, false, false, false, false, false, false, false, false] rfl rfl (any_of HT_.out (by kernel_rfl)) (fun _ _ _ h => h) (Or.inl ⟨by rfl, ?_⟩) ?_ ?_
                          rotate_left
                          · intro w'
                            go_simp
                            with_reducible rfl
                          rotate_left
                          · simp only [Act.put, List.setIfInBounds_toArray, List.set_cons_zero, List.set_cons_succ, i64_w, i32_w]
                            rfl
                          refine pure_ (i := 10) (N := some 77) (v := ?_) (a' := ?_) #[true, true, false, true, true, false, true, true, false, false, true, false, false, false, false, false, false] rfl rfl (any_of HT_.out (by kernel_rfl)) (fun _ _ _ h => h) (Or.inl ⟨by rfl, ?_⟩) ?_ ?_
                          rotate_left
                          · intro w'
                            go_simp
                            with_reducible rfl
                          rotate_left
                          · simp only [Act.put, List.setIfInBounds_toArray, List.set_cons_zero, List.set_cons_succ, i64_w, i32_w]
                            rfl
                          refine pure_ (i := 11) (N := some 78) (v := ?_) (a' := ?_) #[true, true, false, true, true, false, true, true, false, false, true, true, false, false, false, false, false] rfl rfl (any_of HT_.out (by kernel_rfl)) (fun _ _ _ h => h) (Or.inl ⟨by rfl, ?_⟩) ?_ ?_
                          rotate_left
                          · intro w'
                            go_simp
                            with_reducible rfl
                          rotate_left
                          · simp only [Act.put, List.setIfInBounds_toArray, List.set_cons_zero, List.set_cons_succ, i64_w, i32_w]
                            rfl
                          refine take_ (i := 2) (N := some 69) (v := ?_) (a' := ?_) #[true, true, true, true, true, false, true, true, false, false, true, true, false, false, false, false, false] rfl rfl (take_ofW HT_.out HW_.out (by kernel_rfl)) (fun _ _ _ h => h) (Or.inl ⟨by rfl, ?_⟩) hHeld ?_ ?_
                          rotate_left
                          · rintro w' ⟨s0, s1, s2, s3⟩
                            go_simp
                            with_reducible rfl
                          rotate_left
                          · simp only [Act.put, List.setIfInBounds_toArray, List.set_cons_zero, List.set_cons_succ, i64_w, i32_w]
                            rfl
                          refine pure_ (i := 14) (N := some 2) (v := ?_) (a' := ?_) #[true, true, true, true, true, false, true, true, false, false, true, true, false, false, true, false, false] rfl rfl (any_of HT_.out (by kernel_rfl)) (fun _ _ _ h => h) (Or.inl ⟨by rfl, ?_⟩) ?_ ?_
                          rotate_left
                          · intro w'
                            go_simp
                            with_reducible rfl
                          rotate_left
                          · simp only [Act.put, List.setIfInBounds_toArray, List.set_cons_zero, List.set_cons_succ, i64_w, i32_w]
                            rfl
                          refine take_ (i := 5) (N := some 72) (v := ?_) (a' := ?_) #[true, true, true, true, true, true, true, true, false, false, true, true, false, false, true, false, false] rfl rfl (take_ofW HT_.out HW_.out (by kernel_rfl)) (fun _ _ _ h => h) (Or.inl ⟨by rfl, ?_⟩) hHeld ?_ ?_
                          rotate_left
                          · rintro w' ⟨s0, s1, s2, s3⟩
                            go_simp
                            with_reducible rfl
                          rotate_left
                          · simp only [Act.put, List.setIfInBounds_toArray, List.set_cons_zero, List.set_cons_succ, i64_w, i32_w]
                            rfl
                          refine take_ (i := 8) (N := some 75) (v := ?_) (a' := ?_) #[true, true, true, true, true, true, true, true, true, false, true, true, false, false, true, false, false] rfl rfl (take_ofW HT_.out HW_.out (by kernel_rfl)) (fun _ _ _ h => h) (Or.inl ⟨by rfl, ?_⟩) hHeld ?_ ?_
                          rotate_left
                          · rintro w' ⟨s0, s1, s2, s3⟩
                            go_simp
                            with_reducible rfl
                          rotate_left
                          · simp only [Act.put, List.setIfInBounds_toArray, List.set_cons_zero, List.set_cons_succ, i64_w, i32_w]
                            rfl
                          refine pure_ (i := 9) (N := some 76) (v := ?_) (a' := ?_) #[true, true, true, true, true, true, true, true, true, true, true, true, false, false, true, false, false] rfl rfl (any_of HT_.out (by kernel_rfl)) (fun _ _ _ h => h) (Or.inl ⟨by rfl, ?_⟩) ?_ ?_
                          rotate_left
                          · intro w'
                            go_simp
                            with_reducible rfl
                          rotate_left
                          · simp only [Act.put, List.setIfInBounds_toArray, List.set_cons_zero, List.set_cons_succ, i64_w, i32_w]
                            rfl
                          refine take_ (i := 12) (N := some 79) (v := ?_) (a' := ?_) #[true, true, true, true, true, true, true, true, true, true, true, true, true, false, true, false, false] rfl rfl (take_ofW HT_.out HW_.out (by kernel_rfl)) (fun _ _ _ h => h) (Or.inl ⟨by rfl, ?_⟩) hHeld ?_ ?_
                          rotate_left
                          · rintro w' ⟨s0, s1, s2, s3⟩
                            go_simp
                            with_reducible rfl
                          rotate_left
                          · simp only [Act.put, List.setIfInBounds_toArray, List.set_cons_zero, List.set_cons_succ, i64_w, i32_w]
                            rfl
                          refine pure_ (i := 13) (N := some 80) (v := ?_) (a' := ?_) #[true, true, true, true, true, true, true, true, true, true, true, true, true, true, true, false, false] rfl rfl (any_of HT_.out (by kernel_rfl)) (fun _ _ _ h => h) (Or.inl ⟨by rfl, ?_⟩) ?_ ?_
                          rotate_left
                          · intro w'
                            go_simp
                            with_reducible rfl
                          rotate_left
                          · simp only [Act.put, List.setIfInBounds_toArray, List.set_cons_zero, List.set_cons_succ, i64_w, i32_w]
                            rfl
                          refine one_ (i := 15) (N := none) #[true, true, true, true, true, true, true, true, true, true, true, true, true, true, true, true, false] rfl rfl (one_of HT_.out (by kernel_rfl)) (by decide) (fun K hK => ?_)
                          have hs42 : w41.cell? ⟨gb139, 0, none⟩ = some (.string (⟨#[]⟩ : ByteArray)) := (blk_cell BK139.out 0).trans rfl
                          have hfs42 := blk_frozen BK139.out 0
                          have hs43 : w41.cell? ⟨gb139, 1, none⟩ = some (.string (⟨#[]⟩ : ByteArray)) := (blk_cell BK139.out 1).trans rfl
                          have hfs43 := blk_frozen BK139.out 1
                          refine skip_ (w1 := ?_) (by rfl) rfl ?_ ?_
                          rotate_left
                          · go_simp
                            rfl
                          refine hK.out _ _ ⟨((cell_far (p := ⟨gb139, _, none⟩) (by first | exact Kd.own_blk (Kd.R_ne HO_5.out BK139.out (by decide)) | (rw [add_block]; exact Kd.own_blk (Kd.R_ne HO_5.out BK139.out (by decide))) | (show (Addr.add _ _).block ≠ _; rw [add_block]; exact Kd.own_blk (Kd.R_ne HO_5.out BK139.out (by decide))) | (dsimp only; exact Kd.own_blk (Kd.R_ne HO_5.out BK139.out (by decide)))) _).trans (((cell_far (p := ⟨gb139, _, none⟩) (by first | exact Kd.own_blk (Kd.R_ne HO_5.out BK139.out (by decide)) | (rw [add_block]; exact Kd.own_blk (Kd.R_ne HO_5.out BK139.out (by decide))) | (show (Addr.add _ _).block ≠ _; rw [add_block]; exact Kd.own_blk (Kd.R_ne HO_5.out BK139.out (by decide))) | (dsimp only; exact Kd.own_blk (Kd.R_ne HO_5.out BK139.out (by decide)))) _).trans (hHeld.1)))), ((cell_far (p := ⟨gb139, _, none⟩) (by first | exact Kd.own_blk (Kd.R_ne HO_5.out BK139.out (by decide)) | (rw [add_block]; exact Kd.own_blk (Kd.R_ne HO_5.out BK139.out (by decide))) | (show (Addr.add _ _).block ≠ _; rw [add_block]; exact Kd.own_blk (Kd.R_ne HO_5.out BK139.out (by decide))) | (dsimp only; exact Kd.own_blk (Kd.R_ne HO_5.out BK139.out (by decide)))) _).trans (((cell_far (p := ⟨gb139, _, none⟩) (by first | exact Kd.own_blk (Kd.R_ne HO_5.out BK139.out (by decide)) | (rw [add_block]; exact Kd.own_blk (Kd.R_ne HO_5.out BK139.out (by decide))) | (show (Addr.add _ _).block ≠ _; rw [add_block]; exact Kd.own_blk (Kd.R_ne HO_5.out BK139.out (by decide))) | (dsimp only; exact Kd.own_blk (Kd.R_ne HO_5.out BK139.out (by decide)))) _).trans (hHeld.2.1)))), ((cell_far (p := ⟨gb139, _, none⟩) (by first | exact Kd.own_blk (Kd.R_ne HO_5.out BK139.out (by decide)) | (rw [add_block]; exact Kd.own_blk (Kd.R_ne HO_5.out BK139.out (by decide))) | (show (Addr.add _ _).block ≠ _; rw [add_block]; exact Kd.own_blk (Kd.R_ne HO_5.out BK139.out (by decide))) | (dsimp only; exact Kd.own_blk (Kd.R_ne HO_5.out BK139.out (by decide)))) _).trans (((cell_far (p := ⟨gb139, _, none⟩) (by first | exact Kd.own_blk (Kd.R_ne HO_5.out BK139.out (by decide)) | (rw [add_block]; exact Kd.own_blk (Kd.R_ne HO_5.out BK139.out (by decide))) | (show (Addr.add _ _).block ≠ _; rw [add_block]; exact Kd.own_blk (Kd.R_ne HO_5.out BK139.out (by decide))) | (dsimp only; exact Kd.own_blk (Kd.R_ne HO_5.out BK139.out (by decide)))) _).trans (hHeld.2.2.1)))), ((cell_far (p := ⟨gb139, _, none⟩) (by first | exact Kd.own_blk (Kd.R_ne HO_5.out BK139.out (by decide)) | (rw [add_block]; exact Kd.own_blk (Kd.R_ne HO_5.out BK139.out (by decide))) | (show (Addr.add _ _).block ≠ _; rw [add_block]; exact Kd.own_blk (Kd.R_ne HO_5.out BK139.out (by decide))) | (dsimp only; exact Kd.own_blk (Kd.R_ne HO_5.out BK139.out (by decide)))) _).trans (((cell_far (p := ⟨gb139, _, none⟩) (by first | exact Kd.own_blk (Kd.R_ne HO_5.out BK139.out (by decide)) | (rw [add_block]; exact Kd.own_blk (Kd.R_ne HO_5.out BK139.out (by decide))) | (show (Addr.add _ _).block ≠ _; rw [add_block]; exact Kd.own_blk (Kd.R_ne HO_5.out BK139.out (by decide))) | (dsimp only; exact Kd.own_blk (Kd.R_ne HO_5.out BK139.out (by decide)))) _).trans (hHeld.2.2.2))))⟩ (fun hHeld => ?_)
                          clear hK K
                          refine pure_ (i := 16) (N := some 4) (v := ?_) (a' := ?_) #[true, true, true, true, true, true, true, true, true, true, true, true, true, true, true, true, true] rfl rfl (any_of HT_.out (by kernel_rfl)) (fun _ _ _ h => h) (Or.inl ⟨by rfl, ?_⟩) ?_ ?_
                          rotate_left
                          · intro w'
                            go_simp
                            with_reducible rfl
                          rotate_left
                          · simp only [Act.put, List.setIfInBounds_toArray, List.set_cons_zero, List.set_cons_succ, i64_w, i32_w]
                            rfl
                          refine done_ (done_of HT_.out (by kernel_rfl)) ?_
                          try go_wp2
                          refine bodyPost_ret (results_list (rs := [.tmp 2, .cell 3 23, .tmp 4]) rfl (by simp) (.tmp (.cell gb139 23 #[.string ((rdOf ByteArray.empty t140 1) ++ (rdOf ByteArray.empty t140 2)), .string (rdOf ByteArray.empty t140 3)] (0, 0) _ rfl (by (with_reducible repeat (first | refine blk_drewN ?_ _ | refine blk_drew ?_ | refine blk_alloc ?_ _)); refine blk_put (cs := #[.string ((rdOf ByteArray.empty t140 1) ++ (rdOf ByteArray.empty t140 2)), .string (⟨#[]⟩ : ByteArray)]) ?_ 1 _ rfl; (with_reducible repeat (first | refine blk_drewN ?_ _ | refine blk_drew ?_ | refine blk_alloc ?_ _)); refine blk_put (cs := #[.string (⟨#[]⟩ : ByteArray), .string (⟨#[]⟩ : ByteArray)]) ?_ 0 _ rfl; (with_reducible repeat (first | refine blk_drewN ?_ _ | refine blk_drew ?_ | refine blk_alloc ?_ _)); exact BK139.out) Tryz.underlying23 rfl (by kernel_rfl) (.tmp .nil)))) rfl ?_
                          exact ⟨by first | rfl | (simp [errW_none, errW_some] <;> rfl) | (simp [*, errW_none, errW_some] <;> rfl), by repeat (first | (with_reducible first | exact HB.out | apply below_alloc | apply pw_below_drewN | apply below_drew1 | refine below_set ?_ GE139.out) | exact HB.out)⟩
                        · rw [if_neg c39] at H
                          exact absurd H (by simp)
                      · rw [if_neg c38] at H
                        exact absurd H (by simp)
                    · rw [if_neg c37] at H
                      exact absurd H (by simp)
                  · rw [if_neg c36] at H
                    exact absurd H (by simp)
                · rw [if_neg c35] at H
                  have c35b0 : (t153.toList == ([] : List UInt8)) = false := beq_eq_false_iff_ne.mpr c35
                  have c35b1 : (t153.toList != ([] : List UInt8)) = true := bne_iff_ne.mpr c35
                  simp only [Option.some.injEq, Prod.mk.injEq] at H
                  obtain ⟨rfl, rfl, rfl, rfl⟩ := H
                  obtain ⟨Ao44, co44, eo44⟩ := Kd.R_slice HO_5.out
                  subst eo44
                  have p151 : 0 ≤ (1 : Int) := (by omega)
                  have q151 : 1 < (t140.length : Int) := of_decide_eq_true (by first | (with_reducible assumption) | assumption)
                  obtain ⟨ad151, e151, hx151_0⟩ := Kd.at_string (Kd.R_reads' HO_5.out).2.2 1 p151 q151
                  cases e151
                  (try simp only [show (1 : Int).toNat = 1 from rfl, Nat.reduceMul, Nat.reduceEqDiff, Go.Addr.add, ↓reduceIte] at hx151_0)
                  have qi151 : (1 < t140.length) = True := eq_true (by omega)
                  (try rw [show ((1 : Int)).toNat = 1 from rfl] at hx151_0)
                  replace p151 := eq_true p151
                  replace q151 := eq_true q151
                  go_wp2_with (first | ((with_reducible refine gate_callee (f := 22) rfl ?_); refine goesL_ (some 62) rfl rfl Tryz.func22 (by kernel_rfl) rfl #[.string (rdOf ByteArray.empty t140 1)] rfl (by (try simp only [List.map_toArray, List.map_cons, List.map_nil]); first | done | rfl | (simp only [List.length_drop, List.length_take]; rfl)) ?_; (with_reducible refine (secateurref30_cut.calls kj19 (rdOf ByteArray.empty t140 1) t152 t153 _ A34.out).mono ?_); rintro e w' ⟨rfl, ⟨nd, rfl⟩⟩; refine ⟨_, rfl, ?_⟩; (try (rw [drewN_self wc]; generalize hq_ : World.drewN wc _ = wc; have n0_ : Aside0 (Kd.R Kd.string 9 wc w.heap.size (fun _ => True) (.slice (some ad151) t140.length co44) t140) := ⟨by rw [← hq_]; exact (by (with_reducible repeat (first | apply Kd.R_alloc | apply Kd.R_drewN | apply Kd.R_drew)); exact HO_5.out)⟩; have n1_ : Aside0 (wc.heap[gb139]? = some (.cells #[.string (⟨#[]⟩ : ByteArray), .string (⟨#[]⟩ : ByteArray)] 23 (0, 0))) := ⟨by rw [← hq_]; exact (by (with_reducible repeat (first | refine blk_drewN ?_ _ | refine blk_drew ?_ | refine blk_alloc ?_ _)); exact BK139.out)⟩; have n2_ : Aside0 (Below w.heap.size w wc) := ⟨by rw [← hq_]; exact (by repeat (first | (with_reducible first | exact HB.out | apply below_alloc | apply pw_below_drewN | apply below_drew1 | refine below_set ?_ GE139.out) | exact HB.out))⟩; clear HO_5 BK139 HB hq_; have HO_5 := n0_; have BK139 := n1_; have HB := n2_; clear n0_ n1_ n2_)); have hcz45_0 : wc.cell? ⟨gb139, 0, none⟩ = some (.string (⟨#[]⟩ : ByteArray)) := (blk_cell BK139.out 0).trans rfl; have hcz45_1 : wc.cell? ⟨gb139, 1, none⟩ = some (.string (⟨#[]⟩ : ByteArray)) := (blk_cell BK139.out 1).trans rfl; have hfz45_0 := blk_frozen BK139.out 0; have hfz45_1 := blk_frozen BK139.out 1))
                  refine bodyPost_ret (results_list (rs := [.tmp 2, .cell 3 23, .tmp 4]) rfl (by simp) (.tmp (.cell gb139 23 #[.string (⟨#[]⟩ : ByteArray), .string (⟨#[]⟩ : ByteArray)] (0, 0) _ rfl (by (with_reducible repeat (first | refine blk_drewN ?_ _ | refine blk_drew ?_ | refine blk_alloc ?_ _)); refine blk_put (cs := #[.string (⟨#[]⟩ : ByteArray), .string (⟨#[]⟩ : ByteArray)]) ?_ 1 _ rfl; (with_reducible repeat (first | refine blk_drewN ?_ _ | refine blk_drew ?_ | refine blk_alloc ?_ _)); refine blk_put (cs := #[.string (⟨#[]⟩ : ByteArray), .string (⟨#[]⟩ : ByteArray)]) ?_ 0 _ rfl; (with_reducible repeat (first | refine blk_drewN ?_ _ | refine blk_drew ?_ | refine blk_alloc ?_ _)); exact BK139.out) Tryz.underlying23 rfl (by kernel_rfl) (.tmp .nil)))) rfl ?_
                  exact ⟨by first | rfl | (simp [errW_none, errW_some] <;> rfl) | (simp [*, errW_none, errW_some] <;> rfl), by repeat (first | (with_reducible first | exact HB.out | apply below_alloc | apply pw_below_drewN | apply below_drew1 | refine below_set ?_ GE139.out) | exact HB.out)⟩
              · rw [if_neg c33] at H
                exact absurd H (by simp)
            · replace c32 := Bool.eq_false_iff.mpr c32
              subst c32
              have H1 : (some ((⟨#[]⟩ : ByteArray), (⟨#[]⟩ : ByteArray), (⟨#[]⟩ : ByteArray), false)) = some (r1, r2, r3, r4) := by rw [if_neg (show ¬ (false = true) by decide)] at H; exact H
              clear H
              have H := H1
              clear H1
              simp only [Option.some.injEq, Prod.mk.injEq] at H
              obtain ⟨rfl, rfl, rfl, rfl⟩ := H
              have hcz46_0 : wc.cell? ⟨gb139, 0, none⟩ = some (.string (⟨#[]⟩ : ByteArray)) := (blk_cell BK139.out 0).trans rfl
              have hcz46_1 : wc.cell? ⟨gb139, 1, none⟩ = some (.string (⟨#[]⟩ : ByteArray)) := (blk_cell BK139.out 1).trans rfl
              have hfz46_0 := blk_frozen BK139.out 0
              have hfz46_1 := blk_frozen BK139.out 1
              go_wp2
              refine bodyPost_ret (results_list (rs := [.tmp 2, .cell 3 23, .tmp 4]) rfl (by simp) (.tmp (.cell gb139 23 #[.string (⟨#[]⟩ : ByteArray), .string (⟨#[]⟩ : ByteArray)] (0, 0) _ rfl (by (with_reducible repeat (first | refine blk_drewN ?_ _ | refine blk_drew ?_ | refine blk_alloc ?_ _)); refine blk_put (cs := #[.string (⟨#[]⟩ : ByteArray), .string (⟨#[]⟩ : ByteArray)]) ?_ 1 _ rfl; (with_reducible repeat (first | refine blk_drewN ?_ _ | refine blk_drew ?_ | refine blk_alloc ?_ _)); refine blk_put (cs := #[.string (⟨#[]⟩ : ByteArray), .string (⟨#[]⟩ : ByteArray)]) ?_ 0 _ rfl; (with_reducible repeat (first | refine blk_drewN ?_ _ | refine blk_drew ?_ | refine blk_alloc ?_ _)); exact BK139.out) Tryz.underlying23 rfl (by kernel_rfl) (.tmp .nil)))) rfl ?_
              exact ⟨by first | rfl | (simp [errW_none, errW_some] <;> rfl) | (simp [*, errW_none, errW_some] <;> rfl), by repeat (first | (with_reducible first | exact HB.out | apply below_alloc | apply pw_below_drewN | apply below_drew1 | refine below_set ?_ GE139.out) | exact HB.out)⟩
end Go.Proofs.YtaokkkolbifdpaaGreatDoor.Q32
end

section
namespace Go.Proofs.YtaokkkolbifdpaaGreatDoor.Q32
open Go.RowKit Go.Proofs.YtaokkkolbifdpaaGreatDoorW.PrintWords Go.Proofs.YtaokkkolbifdpaaGreatDoorW.PrintLast Go.Proofs.YtaokkkolbifdpaaGreatDoorW.PrintMore Go.Proofs.YtaokkkolbifdpaaGreatDoor.Hand
attribute [local go_sem] max2_int min2_int max_two min_two max_three min_three max_four min_four   -- for this text's walks alone
set_option linter.unusedVariables false
set_option linter.unusedSimpArgs false
end Go.Proofs.YtaokkkolbifdpaaGreatDoor.Q32
end

section
namespace Go.Proofs.YtaokkkolbifdpaaGreatDoor.Hand
open Go.RowKit Go.Proofs.YtaokkkolbifdpaaGreatDoorW.PrintWords Go.Proofs.YtaokkkolbifdpaaGreatDoorW.PrintLast Go.Proofs.YtaokkkolbifdpaaGreatDoorW.PrintMore
set_option linter.unusedVariables false
set_option linter.unusedSimpArgs false
def wClass : List UInt8 := [99, 108, 97, 115, 115]
def wField : List UInt8 := [102, 105, 101, 108, 100]
def wMethod : List UInt8 := [109, 101, 116, 104, 111, 100]
def lineS (what : List UInt8) (x : List UInt8 × List UInt8) : List UInt8 :=
  if what = wClass ∨ what = wField then lineL [what, x.1, x.2] else if what = wMethod then lineL [what, keyN x.1, keyD x.1, x.2] else []
def readF (l : List (List UInt8)) : List UInt8 × (List UInt8 × List UInt8) × Bool :=
  match l with
  | [a, b, c] => if a = wClass ∨ a = wField then (a, (b, c), true) else ([], ([], []), false)
  | [a, b, c, d] => if a = wMethod ∧ (40 : UInt8) ∉ b ∧ c.head? = some 40 then (a, (b ++ c, d), true) else ([], ([], []), false)
  | _ => ([], ([], []), false)
def readS (line : List UInt8) : List UInt8 × (List UInt8 × List UInt8) × Bool := readF (fieldsL line)
theorem toList_bl (s : ByteArray) : s.toList = bl s := ByteArray.toList_eq s
theorem key_some {l : List UInt8} (h : (40 : UInt8) ∈ l) : ∃ r, keyD l = 40 :: r := by
  unfold keyD
  induction l with
  | nil => simp at h
  | cons b l ih =>
    rw [List.dropWhile_cons]
    by_cases hb : b = 40
    · subst hb
      exact ⟨l, by simp⟩
    · have h2 : (b != 40) = true := bne_iff_ne.2 hb
      rw [h2, if_pos rfl]
      refine ih ?_
      rcases List.mem_cons.1 h with h | h
      · exact absurd h.symm hb
      · exact h
theorem until_key : ∀ l : List UInt8, untilL 40 l = if (40 : UInt8) ∈ l then some (keyN l, (keyD l).tail) else none
  | [] => by simp [untilL]
  | b :: l => by
    unfold untilL keyN keyD
    by_cases hb : b = 40
    · subst hb
      simp
    · have h2 : (b != 40) = true := bne_iff_ne.2 hb
      have hm : ((40 : UInt8) ∈ b :: l) ↔ (40 : UInt8) ∈ l := by
        rw [List.mem_cons]
        exact ⟨fun h => h.resolve_left fun e => hb e.symm, .inr⟩
      rw [if_neg hb, until_key l, List.takeWhile_cons, List.dropWhile_cons, h2, if_pos rfl, if_pos rfl]
      by_cases h : (40 : UInt8) ∈ l
      · rw [if_pos h, if_pos (hm.2 h)]; rfl
      · rw [if_neg h, if_neg (fun h' => h (hm.1 h'))]; rfl
theorem cut_key (l : List UInt8) : Lib.cut l [40] = if (40 : UInt8) ∈ l then (keyN l, (keyD l).tail, true) else (l, [], false) := by
  rw [cut_until, until_key]
  by_cases h : (40 : UInt8) ∈ l
  · rw [if_pos h, if_pos h]
  · rw [if_neg h, if_neg h]
theorem lineL_len3 (a b c : List UInt8) : (lineL [a, b, c]).length = a.length + b.length + c.length + 2 := by simp [lineL]; omega
theorem lineL_len4 (a b c d : List UInt8) : (lineL [a, b, c, d]).length = a.length + b.length + c.length + d.length + 3 := by simp [lineL]; omega
theorem word_line3 (a b c : ByteArray) (h : a.size + b.size + c.size ≤ 4194304) : word_Line.f [a, b, c] = some (lb (lineL [bl a, bl b, bl c])) := by
  unfold word_Line.f
  rw [if_pos ⟨by show (lineL [bl a, bl b, bl c]).length ≤ _; rw [lineL_len3, bl_len, bl_len, bl_len]; omega, by simp⟩]
  rfl
theorem word_line4 (a b c d : ByteArray) (h : a.size + b.size + c.size + d.size ≤ 4194304) : word_Line.f [a, b, c, d] = some (lb (lineL [bl a, bl b, bl c, bl d])) := by
  unfold word_Line.f
  rw [if_pos ⟨by show (lineL [bl a, bl b, bl c, bl d]).length ≤ _; rw [lineL_len4, bl_len, bl_len, bl_len, bl_len]; omega, by simp⟩]
  rfl
theorem size_of_bl {s : ByteArray} {l : List UInt8} (h : bl s = l) : s.size = l.length := by rw [← h, bl_len]
theorem legLine_eq (what old new : ByteArray) (ho : old.size ≤ 1048576) (hn : new.size ≤ 1048576) : Q32.legend_Line.f 1 what old new = some (lb (lineS (bl what) (bl old, bl new))) := by
  unfold Q32.legend_Line.f lineS
  by_cases h1 : bl what = wClass
  · have e : what.toList = ([99, 108, 97, 115, 115] : List UInt8) := (toList_bl _).trans h1
    have hb : (what.toList == ([99, 108, 97, 115, 115] : List UInt8)) = true := by rw [e]; rfl
    rw [if_pos e, if_pos (.inl h1), Q32.legend_Line.j0, if_pos hb, word_line3 _ _ _ (by rw [size_of_bl h1]; show 5 + _ + _ ≤ _; omega)]
    rfl
  · have e : ¬ what.toList = ([99, 108, 97, 115, 115] : List UInt8) := fun he => h1 ((toList_bl _).symm.trans he)
    rw [if_neg e]
    by_cases h2 : bl what = wField
    · have e2 : what.toList = ([102, 105, 101, 108, 100] : List UInt8) := (toList_bl _).trans h2
      have hb : (what.toList == ([102, 105, 101, 108, 100] : List UInt8)) = true := by rw [e2]; rfl
      rw [if_pos (.inr h2), Q32.legend_Line.j0, if_pos hb, word_line3 _ _ _ (by rw [size_of_bl h2]; show 5 + _ + _ ≤ _; omega)]
      rfl
    · have e2 : ¬ what.toList = ([102, 105, 101, 108, 100] : List UInt8) := fun he => h2 ((toList_bl _).symm.trans he)
      have hb : ¬ (what.toList == ([102, 105, 101, 108, 100] : List UInt8)) = true := fun he => e2 (eq_of_beq he)
      rw [if_neg (fun h => h.elim h1 h2), Q32.legend_Line.j0, if_neg hb]
      by_cases h3 : bl what = wMethod
      · have e3 : what.toList = ([109, 101, 116, 104, 111, 100] : List UInt8) := (toList_bl _).trans h3
        have hw : what.size = 6 := size_of_bl h3
        rw [if_pos e3, if_pos h3]
        unfold strings_Cut.f
        rw [if_pos (by omega), show bl (⟨#[40]⟩ : ByteArray) = [40] from rfl, cut_key]
        have hk1 := keyN_len (bl old)
        have hk2 := keyD_len (bl old)
        rw [bl_len] at hk1 hk2
        by_cases hm : (40 : UInt8) ∈ bl old
        · obtain ⟨r, hr⟩ := key_some hm
          have hr2 : r.length + 1 ≤ old.size := by rw [hr] at hk2; simpa using hk2
          rw [if_pos hm]
          simp only [Option.bind_some, if_true]
          rw [hr, List.tail_cons, if_pos (by rw [lb_size]; omega)]
          have hcat : (⟨#[40]⟩ : ByteArray) ++ lb r = lb (40 :: r) := by
            apply bl_inj
            rw [bl_append, bl_lb, bl_lb]
            rfl
          rw [hcat, word_line4 _ _ _ _ (by rw [hw, lb_size, lb_size, List.length_cons]; omega), bl_lb, bl_lb]
          rfl
        · rw [if_neg hm]
          simp only [Option.bind_some, Bool.false_eq_true, if_false]
          rw [lb_bl, word_line4 _ _ _ _ (by rw [hw, lb_size]; simp; omega), bl_lb, (key_none hm).1, (key_none hm).2]
          rfl
      · have e3 : ¬ what.toList = ([109, 101, 116, 104, 111, 100] : List UInt8) := fun he => h3 ((toList_bl _).symm.trans he)
        rw [if_neg e3, if_neg h3]
        first | done | rfl
theorem rd_map (l : List (List UInt8)) (i : Nat) (h : i < l.length) : rdOf ByteArray.empty (l.map lb) (i : Int) = lb l[i] := by simp [rdOf, List.getElem?_eq_getElem h]
theorem index_one40 (l : List UInt8) : Lib.contains l [40] = decide ((40 : UInt8) ∈ l) := by
  have h1 : Lib.contains l [40] = decide (0 ≤ Lib.indexByte l 40) := by
    unfold Lib.contains
    rw [Lib.index_one]
  rw [h1, index_tw]
  by_cases h : (40 : UInt8) ∈ l
  · rw [if_pos h, decide_eq_true h, decide_eq_true (by omega)]
  · rw [if_neg h, decide_eq_false h, decide_eq_false (by omega)]
theorem prefix40 (l : List UInt8) : Lib.hasPrefix l [40] = decide (l.head? = some 40) := by
  cases l with
  | nil => rfl
  | cons b l =>
    unfold Lib.hasPrefix
    by_cases h : b = 40
    · subst h; simp [List.isPrefixOf]
    · have : ¬ (40 : UInt8) = b := fun e => h e.symm
      simp [List.isPrefixOf, h, this]
def legOut (q : List UInt8 × (List UInt8 × List UInt8) × Bool) : ByteArray × ByteArray × ByteArray × Bool := (lb q.1, lb q.2.1.1, lb q.2.1.2, q.2.2)
theorem lb_word {a w : List UInt8} : (lb a).toList = w ↔ a = w := by rw [toList_bl, bl_lb]
theorem lb_beq (a w : List UInt8) : ((lb a).toList == w) = decide (a = w) := by
  rw [toList_bl, bl_lb]
  by_cases h : a = w
  · rw [decide_eq_true h, h]; exact beq_self_eq_true _
  · rw [decide_eq_false h]; exact beq_eq_false_iff_ne.2 h
theorem legRead_j0 (l : List (List UInt8)) (x : List UInt8) (hx : l.head? = some x) (b : Bool) (hb : b = decide (x = wClass ∨ x = wField)) (hs : ∀ a ∈ l, a.length ≤ 4194304) :
    Q32.legend_Read.j0 1 (l.map lb) (lb x) b = some (legOut (readF l)) := by
  rw [Q32.legend_Read.j0]
  have hlen : ((l.map lb).length : Int) = (l.length : Int) := by rw [List.length_map]
  rw [hlen]
  have nm : x = wClass ∨ x = wField → ¬ x = wMethod := fun h => by rcases h with h | h <;> (rw [h]; decide)
  match l, hx, hs with
  | [a], hx, _ =>
    obtain rfl : a = x := by simpa using hx
    rw [hb]
    by_cases h : a = wClass ∨ a = wField
    · rw [decide_eq_true h]; rfl
    · rw [decide_eq_false h]
      by_cases h3 : (lb a).toList = ([109, 101, 116, 104, 111, 100] : List UInt8)
      · rw [if_pos h3]; rfl
      · rw [if_neg h3]; rfl
  | [a, c], hx, _ =>
    obtain rfl : a = x := by simpa using hx
    rw [hb]
    by_cases h : a = wClass ∨ a = wField
    · rw [decide_eq_true h]; rfl
    · rw [decide_eq_false h]
      by_cases h3 : (lb a).toList = ([109, 101, 116, 104, 111, 100] : List UInt8)
      · rw [if_pos h3]; rfl
      · rw [if_neg h3]; rfl
  | [a, c, d], hx, _ =>
    obtain rfl : a = x := by simpa using hx
    rw [hb]
    by_cases h : a = wClass ∨ a = wField
    · rw [decide_eq_true h]
      simp only [readF, if_pos h]
      rfl
    · rw [decide_eq_false h]
      simp only [readF, if_neg h]
      by_cases h3 : (lb a).toList = ([109, 101, 116, 104, 111, 100] : List UInt8)
      · rw [if_pos h3]; rfl
      · rw [if_neg h3]; rfl
  | [a, c, d, e], hx, hs =>
    obtain rfl : a = x := by simpa using hx
    have hc := hs c (by simp)
    have hd := hs d (by simp)
    rw [hb]
    by_cases h : a = wClass ∨ a = wField
    · rw [decide_eq_true h]
      simp only [readF, if_neg (show ¬ (a = wMethod ∧ (40 : UInt8) ∉ c ∧ d.head? = some 40) from fun q => nm h q.1)]
      rfl
    · rw [decide_eq_false h]
      by_cases h3 : a = wMethod
      · have h3' : (lb a).toList = ([109, 101, 116, 104, 111, 100] : List UInt8) := lb_word.2 h3
        have r1 : rdOf ByteArray.empty ([a, c, d, e].map lb) 1 = lb c := rfl
        have r2 : rdOf ByteArray.empty ([a, c, d, e].map lb) 2 = lb d := rfl
        have r0 : rdOf ByteArray.empty ([a, c, d, e].map lb) 0 = lb a := rfl
        have r3 : rdOf ByteArray.empty ([a, c, d, e].map lb) 3 = lb e := rfl
        unfold readF
        rw [if_neg (by decide), if_pos h3', if_pos (by rfl), if_pos (show (1 : Int) < (([a, c, d, e] : List (List UInt8)).length : Int) by simp), r1, r2, r0, r3]
        unfold strings_Contains.f strings_HasPrefix.f
        rw [if_pos (by rw [lb_size]; omega), bl_lb, bl_lb, show bl (⟨#[40]⟩ : ByteArray) = [40] from rfl, index_one40, prefix40]
        simp only [Option.bind_some, decide_eq_true_eq]
        by_cases hm : (40 : UInt8) ∈ c
        · rw [if_pos hm, if_neg (fun q => q.2.1 hm)]
          rfl
        · rw [if_neg hm, if_pos (show (2 : Int) < (([a, c, d, e] : List (List UInt8)).length : Int) by simp)]
          by_cases hp : d.head? = some 40
          · rw [if_pos hp, if_pos (show (0 : Int) < (([a, c, d, e] : List (List UInt8)).length : Int) by simp), if_pos (by rw [lb_size, lb_size]; omega), if_pos (show (3 : Int) < (([a, c, d, e] : List (List UInt8)).length : Int) by simp), if_pos ⟨h3, hm, hp⟩]
            have : lb c ++ lb d = lb (c ++ d) := by apply bl_inj; rw [bl_append, bl_lb, bl_lb, bl_lb]
            rw [this]
            rfl
          · rw [if_neg hp, if_neg (fun q => hp q.2.2)]
            rfl
      · have h3' : ¬ (lb a).toList = ([109, 101, 116, 104, 111, 100] : List UInt8) := fun q => h3 (lb_word.1 q)
        have hn : ¬ (a = wMethod ∧ (40 : UInt8) ∉ c ∧ d.head? = some 40) := fun q => h3 q.1
        rw [if_neg (by decide), if_neg h3']
        simp only [readF, if_neg hn]
        rfl
  | a :: c :: d :: e :: g :: l, hx, _ =>
    obtain rfl : a = x := by simpa using hx
    have n3 : ¬ ((a :: c :: d :: e :: g :: l).length : Int) = 3 := by simp only [List.length_cons]; omega
    have n4 : ¬ ((a :: c :: d :: e :: g :: l).length : Int) = 4 := by simp only [List.length_cons]; omega
    rw [hb]
    by_cases h : a = wClass ∨ a = wField
    · rw [decide_eq_true h, if_pos rfl, if_neg n3]; rfl
    · rw [decide_eq_false h, if_neg (by decide)]
      by_cases h3 : (lb a).toList = ([109, 101, 116, 104, 111, 100] : List UInt8)
      · rw [if_pos h3, if_neg n4]; rfl
      · rw [if_neg h3]; rfl
theorem fld_mem : ∀ (s cur : List UInt8), ∀ a ∈ fld cur s, a.length ≤ cur.length + s.length
  | [], cur, a, h => by simp [fld] at h; simp [h]
  | b :: r, cur, a, h => by
    unfold fld at h
    split at h
    · rcases List.mem_cons.1 h with h | h
      · rw [h]; simp
      · have := fld_mem r [] a h
        simp at this ⊢
        omega
    · have := fld_mem r (cur ++ [b]) a h
      simp at this ⊢
      omega
theorem legRead_eq (s : ByteArray) (hs : s.size ≤ 1048576) : Q32.legend_Read.f 1 s = some (legOut (readS (bl s))) := by
  unfold Q32.legend_Read.f word_Fields.f readS
  have q1 : ∀ x : List UInt8, ((lb x).toList = ([99, 108, 97, 115, 115] : List UInt8)) ↔ x = wClass := fun x => lb_word
  have q2 : ∀ x : List UInt8, ((lb x).toList == ([99, 108, 97, 115, 115] : List UInt8)) = decide (x = wClass) := fun x => lb_beq x wClass
  have q3 : ∀ x : List UInt8, ((lb x).toList == ([102, 105, 101, 108, 100] : List UInt8)) = decide (x = wField) := fun x => lb_beq x wField
  rw [if_pos (by omega)]
  have hne : fieldsL (bl s) ≠ [] := fld_ne _ _
  obtain ⟨x, l, hl⟩ := List.exists_cons_of_ne_nil hne
  have hsz : ∀ a ∈ fieldsL (bl s), a.length ≤ 4194304 := fun a ha => by
    have := fld_mem (bl s) [] a ha
    rw [bl_len] at this
    simp at this
    omega
  rw [Option.bind_some, if_pos (by rw [hl]; simp)]
  have r0 : rdOf ByteArray.empty ((fieldsL (bl s)).map lb) 0 = lb x := by rw [hl]; rfl
  have hh : (fieldsL (bl s)).head? = some x := by rw [hl]; rfl
  rw [r0]
  by_cases h1 : x = wClass
  · rw [if_pos ((q1 x).2 h1), q2]
    exact legRead_j0 _ x hh _ (by rw [decide_eq_true h1, decide_eq_true (.inl h1)]) hsz
  · rw [if_neg (fun q => h1 ((q1 x).1 q)), q3]
    refine legRead_j0 _ x hh _ ?_ hsz
    by_cases h2 : x = wField
    · rw [decide_eq_true h2, decide_eq_true (.inr h2)]
    · rw [decide_eq_false h2, decide_eq_false (fun q => q.elim h1 h2)]
theorem lines_loop (what : ByteArray) (l : List S23) (hl : okL l) : ∀ (d k i : Nat), l.length - i = d → i ≤ l.length → d + 1 < k →
    Q32.legend_lines.l0 k what ((l.take i).map fun x => lb (lineS (bl what) (pairT x))) l (l.length : Int) (i : Int) = some (l.map fun x => lb (lineS (bl what) (pairT x)))
  | 0, k, i, hd, hi, hk => by
    obtain ⟨k, rfl⟩ : ∃ j, k = j + 1 := ⟨k - 1, by omega⟩
    rw [Q32.legend_lines.l0, if_neg (by omega), List.take_of_length_le (by omega)]
  | d + 1, k, i, hd, hi, hk => by
    obtain ⟨k, rfl⟩ : ∃ j, k = j + 1 + 1 := ⟨k - 2, by omega⟩
    have hlt : i < l.length := by omega
    have hx : rd_T23 l (i : Int) = l[i] := by
      unfold rd_T23
      rw [Int.toNat_natCast, List.getD_eq_getElem?_getD, List.getElem?_eq_getElem hlt]
      rfl
    have hok := hl.2 l[i] (List.getElem_mem hlt)
    have hL := legLine_eq what l[i].f0 l[i].f1 hok.1 hok.2
    have hL' : Q32.legend_Line.f (k + 1) what l[i].f0 l[i].f1 = some (lb (lineS (bl what) (bl l[i].f0, bl l[i].f1))) := by
      clear hd hk hx
      induction k with
      | zero => exact hL
      | succ k ih => exact Q32.legend_Line.mono what l[i].f0 l[i].f1 (k + 1) _ ih
    have hw : wrap64 ((i : Int) + 1) = ((i + 1 : Nat) : Int) := by have := hl.1; unfold wrap64; omega
    have ih := lines_loop what l hl d (k + 1) (i + 1) (by omega) (by omega) (by omega)
    rw [Q32.legend_lines.l0, if_pos (by omega), if_pos (by omega), if_pos (by omega), hx, hL', Option.bind_some, if_pos (by rw [List.length_map, List.length_take]; have := hl.1; omega), hw]
    rw [List.take_succ_eq_append_getElem hlt, List.map_append] at ih
    exact ih
theorem lines_eq (what : ByteArray) (l : List S23) (hl : okL l) : Q32.legend_lines.f (l.length + 2) what l = some (l.map fun x => lb (lineS (bl what) (pairT x))) := lines_loop what l hl l.length (l.length + 2) 0 (by omega) (by omega) (by omega)
end Go.Proofs.YtaokkkolbifdpaaGreatDoor.Hand
end

section
namespace Go.Proofs.YtaokkkolbifdpaaGreatDoor.Hand
open Go.RowKit Go.Proofs.YtaokkkolbifdpaaGreatDoorW.PrintWords Go.Proofs.YtaokkkolbifdpaaGreatDoorW.PrintLast Go.Proofs.YtaokkkolbifdpaaGreatDoorW.PrintMore
set_option linter.unusedVariables false
set_option linter.unusedSimpArgs false
def linesAll (l0 l1 l2 : List S23) : List (List UInt8) := (l0.map fun x => lineS wClass (pairT x)) ++ (l1.map fun x => lineS wField (pairT x)) ++ (l2.map fun x => lineS wMethod (pairT x))
def printS (l0 l1 l2 : List S23) : List UInt8 × Int := if rightS l0 l1 l2 = true then (if (textL (linesAll l0 l1 l2)).length > 65536 then ([], 3) else (textL (linesAll l0 l1 l2), 0)) else ([], 1)
theorem rows3 {w : World} {g : Nat} {E1 E2 E3 : Option Addr} {d1 d2 d3 : Nat} {x1 x2 x3 : List ByteArray} (hb : w.heap[g]? = some (Obj.cells #[.slice E1 x1.length d1, .slice E2 x2.length d2, .slice E3 x3.length d3] 45 (0, 0)))
    (hd1 : x1.length ≤ d1) (hd2 : x2.length ≤ d2) (hd3 : x3.length ≤ d3) (h1 : Kd.C Kd.string w E1 x1.length x1) (h2 : Kd.C Kd.string w E2 x2.length x2) (h3 : Kd.C Kd.string w E3 x3.length x3) : Kd.C (Kd.slice 9 Kd.string) w (some ⟨g, 0, none⟩) [x1, x2, x3].length [x1, x2, x3] := by
  refine ⟨rfl, by simp, fun _ => ⟨⟨g, 0, none⟩, rfl, fun j p hj => ?_⟩⟩
  have hj3 : j < 3 := (List.getElem?_eq_some_iff.1 hj).1
  have cell : ∀ (i : Nat) (u : Value), (#[.slice E1 x1.length d1, .slice E2 x2.length d2, .slice E3 x3.length d3] : Array Value)[i]? = some u → w.cell? ((⟨g, 0, none⟩ : Addr).add i) = some u := fun i u hu => by rw [add_plain, blk_cell hb i]; exact hu
  have one : ∀ (u v : Value) (i : Nat), ([u] : List Value)[i]? = some v → i = 0 ∧ v = u := fun u v i h => by
    have h0 : i < 1 := (List.getElem?_eq_some_iff.1 h).1
    obtain rfl : i = 0 := by omega
    exact ⟨rfl, by simpa using h.symm⟩
  rcases (by omega : j = 0 ∨ j = 1 ∨ j = 2) with rfl | rfl | rfl
  · obtain rfl : x1 = p := by simpa using hj
    exact ⟨[.slice E1 x1.length d1], rfl, ⟨E1, d1, rfl, hd1, h1⟩, fun i u hu => by obtain ⟨rfl, rfl⟩ := one _ _ _ hu; exact cell 0 _ rfl⟩
  · obtain rfl : x2 = p := by simpa using hj
    exact ⟨[.slice E2 x2.length d2], rfl, ⟨E2, d2, rfl, hd2, h2⟩, fun i u hu => by obtain ⟨rfl, rfl⟩ := one _ _ _ hu; exact cell 1 _ rfl⟩
  · obtain rfl : x3 = p := by simpa using hj
    exact ⟨[.slice E3 x3.length d3], rfl, ⟨E3, d3, rfl, hd3, h3⟩, fun i u hu => by obtain ⟨rfl, rfl⟩ := one _ _ _ hu; exact cell 2 _ rfl⟩
theorem lines_call (wh : ByteArray) (A : Option Addr) (c : Nat) (l : List S23) (hl : okL l) (hc : l.length ≤ c) (W : World) (hC : Kd.C k23 W A l.length l) (hM : MaxL W) :
    Calls Tryz.prog 28 #[.string wh, .slice A l.length c] W fun e w' => ∃ v, e = .returned v ∧ Kd.R Kd.string 9 w' W.heap.size (fun _ => True) v (l.map fun x => lb (lineS (bl wh) (pairT x))) ∧ Below W.heap.size W w' :=
  Q32.legend_lines.calls (l.length + 2) wh A c l _ W hC hc hM (lines_eq wh l hl)
set_option maxHeartbeats 32000000 in
set_option maxRecDepth 20000 in
theorem legend_print (A0 : Option Addr) (c0 : Nat) (l0 : List S23) (A1 : Option Addr) (c1 : Nat) (l1 : List S23) (A2 : Option Addr) (c2 : Nat) (l2 : List S23) (w : World) (hC0 : Kd.C k23 w A0 l0.length l0) (hc0 : l0.length ≤ c0) (hC1 : Kd.C k23 w A1 l1.length l1) (hc1 : l1.length ≤ c1) (hC2 : Kd.C k23 w A2 l2.length l2) (hc2 : l2.length ≤ c2) (ok0 : okL l0) (ok1 : okL l1) (ok2 : okL l2) (hM : MaxL w)
    (hn : (linesAll l0 l1 l2).length ≤ 1048576) (ht : (textL (linesAll l0 l1 l2)).length ≤ 140737488355000) :
    Calls Tryz.prog 13 #[.agg #[.slice A0 l0.length c0, .slice A1 l1.length c1, .slice A2 l2.length c2]] w fun e w' => e = .returned (.tuple #[.string (lb (printS l0 l1 l2).1), .int .i64 (printS l0 l1 l2).2]) ∧ Below w.heap.size w w' := by
  have HRi := Aside0.mk (fun W (hQ : Mp3 W w.heap.size A0 c0 l0 A1 c1 l1 A2 c2 l2) => alias_right A0 c0 l0 A1 c1 l1 A2 c2 l2 W hQ.r0 hc0 hQ.r1 hc1 hQ.r2 hc2 ok0 ok1 ok2 hQ.m)
  have HM1 := Aside0.mk (Mp3.mk (World.alloc_heap_new w (Obj.cells #[.slice A0 l0.length c0, .slice A1 l1.length c1, .slice A2 l2.length c2] 34)) (Kd.C_below hC0 (below_alloc (Below.refl _ _) _)) (Kd.C_below hC1 (below_alloc (Below.refl _ _) _)) (Kd.C_below hC2 (below_alloc (Below.refl _ _) _)) (hM.below (below_alloc (Below.refl _ _) _)))
  have HB1 := Aside0.mk (below_alloc (Below.refl w.heap.size w) (Obj.cells #[.slice A0 l0.length c0, .slice A1 l1.length c1, .slice A2 l2.length c2] 34))
  have HLa := Aside0.mk (fun W (hQ : Mp3 W w.heap.size A0 c0 l0 A1 c1 l1 A2 c2 l2) => lines_call ⟨#[99, 108, 97, 115, 115]⟩ A0 c0 l0 ok0 hc0 W hQ.r0 hQ.m)
  have HLb := Aside0.mk (fun W (hQ : Mp3 W w.heap.size A0 c0 l0 A1 c1 l1 A2 c2 l2) => lines_call ⟨#[102, 105, 101, 108, 100]⟩ A1 c1 l1 ok1 hc1 W hQ.r1 hQ.m)
  have HLc := Aside0.mk (fun W (hQ : Mp3 W w.heap.size A0 c0 l0 A1 c1 l1 A2 c2 l2) => lines_call ⟨#[109, 101, 116, 104, 111, 100]⟩ A2 c2 l2 ok2 hc2 W hQ.r2 hQ.m)
  obtain ⟨x1, hx1⟩ : ∃ x, x = l0.map (fun x => lb (lineS (bl ⟨#[99, 108, 97, 115, 115]⟩) (pairT x))) := ⟨_, rfl⟩
  obtain ⟨x2, hx2⟩ : ∃ x, x = l1.map (fun x => lb (lineS (bl ⟨#[102, 105, 101, 108, 100]⟩) (pairT x))) := ⟨_, rfl⟩
  obtain ⟨x3, hx3⟩ : ∃ x, x = l2.map (fun x => lb (lineS (bl ⟨#[109, 101, 116, 104, 111, 100]⟩) (pairT x))) := ⟨_, rfl⟩
  have hcat : ([x1, x2, x3].flatten).map bl = linesAll l0 l1 l2 := by
    rw [hx1, hx2, hx3]
    unfold linesAll
    simp only [List.flatten_cons, List.flatten_nil, List.append_nil, List.map_append, List.map_map]
    rw [List.append_assoc]
    rfl
  have hlen : [x1, x2, x3].flatten.length ≤ 1048576 := by rw [← List.length_map (f := bl), hcat]; exact hn
  have HTx := Aside0.mk (fun E d W hC hc => word_Text.calls E d [x1, x2, x3].flatten (lb (textL (linesAll l0 l1 l2))) W hC hc (by unfold word_Text.f; rw [hcat, if_pos (by omega)]))
  have HCo : Aside0 (∀ (A : Option Addr) (W : World), Kd.C (Kd.slice 9 Kd.string) W A [x1, x2, x3].length [x1, x2, x3] → Calls Tryz.prog 27 #[.slice A 3 3] W fun e w' => ∃ v, e = .returned v ∧ Kd.R Kd.string 9 w' W.heap.size (fun _ => True) v [x1, x2, x3].flatten ∧ Below W.heap.size W w') := ⟨fun A W hC => concat_str A 3 [x1, x2, x3] W hC (by simp) hlen⟩
  rw [← hx1] at HLa
  rw [← hx2] at HLb
  rw [← hx3] at HLc
  unfold printS
  obtain ⟨t, ht'⟩ : ∃ t, t = textL (linesAll l0 l1 l2) := ⟨_, rfl⟩
  obtain ⟨xs, hxs⟩ : ∃ t, t = [x1, x2, x3].flatten := ⟨_, rfl⟩
  obtain ⟨br, hbr⟩ : ∃ b, b = rightS l0 l1 l2 := ⟨_, rfl⟩
  rw [← ht'] at HTx ht ⊢
  rw [← hxs] at HTx HCo
  rw [← hbr] at HRi ⊢
  obtain ⟨m0, m1, m2⟩ := HM1.out.cells
  clear hx1 hx2 hx3 hcat hlen ht' hxs hbr hC0 hC1 hC2 hM hn ok0 ok1 ok2
  cases br with
  | false =>
    go_enter Tryz.func13, Tryz.ntmps13
    go_wp2_with fail
    refine (HRi.out _ HM1.out).mono ?_
    rintro e w2 ⟨rfl, hb⟩
    have HB2 := Aside0.mk (below_step HB1.out hb)
    clear hb
    go_wp2_with fail
    exact bodyPost_ret (results_tmp2 rfl _ _ _) rfl ⟨rfl, HB2.out⟩
  | true =>
    go_enter Tryz.func13, Tryz.ntmps13
    go_wp2_with fail
    refine (HRi.out _ HM1.out).mono ?_
    rintro e w2 ⟨rfl, hb⟩
    have HM2 := Aside0.mk (HM1.out.below hb)
    have HB2 := Aside0.mk (below_step HB1.out hb)
    clear hb m0 m1 m2
    go_wp2_with fail
    go_region_held3 (fun w' => w'.cell? ⟨w.heap.size, 0, none⟩ = some (.slice A0 l0.length c0) ∧ w'.cell? ⟨w.heap.size, 1, none⟩ = some (.slice A1 l1.length c1) ∧ w'.cell? ⟨w.heap.size, 2, none⟩ = some (.slice A2 l2.length c2)) (first | with_reducible exact HM2.out.cells | with_reducible exact (HM2.out.below (below_drew1 (Below.refl _ _))).cells | with_reducible exact HM3.out.cells | with_reducible exact HM4.out.cells | with_reducible exact HM5.out.cells | with_reducible exact (HM5.out.below (below_alloc (Below.refl _ _) _)).cells | with_reducible exact HM6.out.cells | with_reducible exact HM7.out.cells | fail "keep") ((first
      | (go_at_call 28; (with_reducible refine (HLa.out _ (HM2.out.below (below_drew1 (Below.refl _ _)))).mono ?_); rintro e w3 ⟨v3, rfl, hR, hb⟩; obtain ⟨E1, d1, rfl, hd1, hE1⟩ := Kd.R_reads hR; have hb_ := below_step (below_drew1 (Below.refl _ _)) hb; have HM3 := Aside0.mk (HM2.out.below hb_); have HB3 := Aside0.mk (below_step HB2.out hb_); have HE1 := Aside0.mk hE1; have HD1 := Aside0.mk hd1; clear hR hb hb_ hE1 hd1)
      | (go_at_call 28; (with_reducible refine (HLb.out _ (HM3.out.below (Below.refl _ _))).mono ?_); rintro e w4 ⟨v4, rfl, hR, hb⟩; obtain ⟨E2, d2, rfl, hd2, hE2⟩ := Kd.R_reads hR; have hb_ := below_step (Below.refl _ _) hb; have HM4 := Aside0.mk (HM3.out.below hb_); have HB4 := Aside0.mk (below_step HB3.out hb_); have HB34 := Aside0.mk hb_; have HE2 := Aside0.mk hE2; have HD2 := Aside0.mk hd2; clear hR hb hb_ hE2 hd2)
      | (go_at_call 28; (with_reducible refine (HLc.out _ (HM4.out.below (Below.refl _ _))).mono ?_); rintro e w5 ⟨v5, rfl, hR, hb⟩; obtain ⟨E3, d3, rfl, hd3, hE3⟩ := Kd.R_reads hR; have hb_ := below_step (Below.refl _ _) hb; have HM5 := Aside0.mk (HM4.out.below hb_); have HB5 := Aside0.mk (below_step HB4.out hb_); have HB45 := Aside0.mk hb_; have HE3 := Aside0.mk hE3; have HD3 := Aside0.mk hd3; clear hR hb hb_ hE3 hd3)
      | (go_at_call 27; (with_reducible refine (HCo.out _ _ (rows3 (World.alloc_heap_new w5 _) HD1.out HD2.out HD3.out (Kd.C_below HE1.out ?ba) (Kd.C_below HE2.out ?bb) (Kd.C_below HE3.out ?bc))).mono ?_); (case ba => exact (below_step (below_step HB34.out HB45.out) (below_alloc (Below.refl _ _) _))); (case bb => exact (below_step HB45.out (below_alloc (Below.refl _ _) _))); (case bc => exact (below_alloc (Below.refl _ _) _)); rintro e w6 ⟨v6, rfl, hR, hb⟩; obtain ⟨E6, d6, rfl, hd6, hE6⟩ := Kd.R_reads hR; have hb_ := below_step (below_alloc (Below.refl w5.heap.size w5) _) hb; have HM6 := Aside0.mk (HM5.out.below hb_); have HB6 := Aside0.mk (below_step HB5.out hb_); have HE6 := Aside0.mk hE6; have HD6 := Aside0.mk hd6; clear hR hb hb_ hE6 hd6)
      | (go_at_call 26; (with_reducible refine (HTx.out _ _ _ HE6.out HD6.out).mono ?_); rintro e w7 ⟨rfl, hb⟩; have HM7 := Aside0.mk (HM6.out.below hb); have HB7 := Aside0.mk (below_step HB6.out hb); clear hb)))
    have hts : (lb t).size = t.length := lb_size t
    by_cases hbig : t.length > 65536
    · have e1 : decide (((lb t).size : Int) > 65536) = true := decide_eq_true (by omega)
      have e2 : decide ((65536 : Int) < ((lb t).size : Int)) = true := decide_eq_true (by omega)
      have e3 : decide (65536 < (lb t).size) = true := decide_eq_true (by omega)
      have HI : Aside0 ((if t.length > 65536 then (([], 3) : List UInt8 × Int) else (t, 0)) = ([], 3)) := ⟨if_pos hbig⟩
      clear hts
      go_wp2_with fail
      refine bodyPost_ret (results_tmp2 rfl _ _ _) rfl ⟨?_, HB7.out⟩
      first
        | rfl
        | (rw [if_pos rfl, HI.out]; rfl)
        | (rw [HI.out]; rfl)
        | (simp only [HI.out, if_true]; rfl)
        | (have hi := HI.out; simp only [gt_iff_lt] at hi ⊢; rw [hi]; rfl)
    · have e1 : decide (((lb t).size : Int) > 65536) = false := decide_eq_false (by omega)
      have e2 : decide ((65536 : Int) < ((lb t).size : Int)) = false := decide_eq_false (by omega)
      have e3 : decide (65536 < (lb t).size) = false := decide_eq_false (by omega)
      have HI : Aside0 ((if t.length > 65536 then (([], 3) : List UInt8 × Int) else (t, 0)) = (t, 0)) := ⟨if_neg hbig⟩
      clear hts
      go_wp2_with fail
      refine bodyPost_ret (results_tmp2 rfl _ _ _) rfl ⟨?_, HB7.out⟩
      first
        | rfl
        | (rw [if_pos rfl, HI.out]; rfl)
        | (rw [HI.out]; rfl)
        | (simp only [HI.out, if_true]; rfl)
        | (have hi := HI.out; simp only [gt_iff_lt] at hi ⊢; rw [hi]; rfl)
end Go.Proofs.YtaokkkolbifdpaaGreatDoor.Hand
end

section
namespace Go.Proofs.YtaokkkolbifdpaaGreatDoor.Hand
open Go.RowKit Go.Proofs.YtaokkkolbifdpaaGreatDoorW.PrintWords Go.Proofs.YtaokkkolbifdpaaGreatDoorW.PrintLast Go.Proofs.YtaokkkolbifdpaaGreatDoorW.PrintMore
set_option linter.unusedVariables false
set_option linter.unusedSimpArgs false
theorem pair_info : (Tryz.prog.info? 23).map (fun i => (i.zero, i.size, i.bytes)) = some (some (.agg #[.string ⟨#[]⟩, .string ⟨#[]⟩]), 2, 32) := by kernel_rfl
structure MOwn (w : World) (base g : Nat) (v0 v1 v2 : Value) (l0 l1 l2 : List S23) : Prop where
  b : w.heap[g]? = some (Obj.cells #[v0, v1, v2] 34 (0, 0))
  hb : base ≤ g
  r0 : Kd.R k23 23 w base (fun _ => True) v0 l0
  r1 : Kd.R k23 23 w base (fun _ => True) v1 l1
  r2 : Kd.R k23 23 w base (fun _ => True) v2 l2
  a01 : ∀ q, v0.ownBlock = some q → some q ≠ v1.ownBlock
  a10 : ∀ q, v1.ownBlock = some q → some q ≠ v0.ownBlock
  a02 : ∀ q, v0.ownBlock = some q → some q ≠ v2.ownBlock
  a20 : ∀ q, v2.ownBlock = some q → some q ≠ v0.ownBlock
  a12 : ∀ q, v1.ownBlock = some q → some q ≠ v2.ownBlock
  a21 : ∀ q, v2.ownBlock = some q → some q ≠ v1.ownBlock
theorem MOwn.below {w w' : World} {base g : Nat} {v0 v1 v2 : Value} {l0 l1 l2 : List S23} (h : MOwn w base g v0 v1 v2 l0 l1 l2) (hb : Below w.heap.size w w') (hbz : base ≤ w.heap.size) : MOwn w' base g v0 v1 v2 l0 l1 l2 :=
  { h with b := blk_below h.b hb, r0 := Kd.R_below h.r0 hb, r1 := Kd.R_below h.r1 hb, r2 := Kd.R_below h.r2 hb }
theorem MOwn.put0 {w W w2 : World} {base g : Nat} {v0 v1 v2 v' : Value} {l0 l1 l2 : List S23} {x : S23} (h : MOwn W base g v0 v1 v2 l0 l1 l2) (hr : Kd.R k23 23 w2 base (fun _ => True) v' (l0 ++ [x])) (hg : W.grownBy w2 v0.ownBlock) (hB : Below base w w2) (hat : v'.ownBlock = v0.ownBlock ∨ ∃ b, v'.ownBlock = some b ∧ W.heap.size ≤ b) (hbz : base ≤ W.heap.size) :
    MOwn (w2.setCell ⟨g, 0, none⟩ v') base g v' v1 v2 (l0 ++ [x]) l1 l2 ∧ Below base w (w2.setCell ⟨g, 0, none⟩ v') := by
  have hb2 := blk_grown h.b hg (Kd.R_ne h.r0 h.b (by decide))
  have hfar : ∀ (a : Value) (la : List S23), Kd.R k23 23 W base (fun _ => True) a la → (∀ q, v0.ownBlock = some q → some q ≠ a.ownBlock) → ∀ q, v'.ownBlock = some q → some q ≠ a.ownBlock := by
    intro a la hra hne q hq
    rcases hat with e | ⟨b, e, hbb⟩
    · exact hne q (e ▸ hq)
    · intro e2
      have h1 := Kd.R_lt hra q e2.symm
      rw [e] at hq
      cases hq
      omega
  have n1 := hfar v1 l1 h.r1 h.a01
  have n2 := hfar v2 l2 h.r2 h.a02
  have sy : ∀ (a : Value), (∀ q, v'.ownBlock = some q → some q ≠ a.ownBlock) → ∀ q, a.ownBlock = some q → some q ≠ v'.ownBlock := fun a hn q hq e => hn q e.symm hq.symm
  refine ⟨{ b := blk_put hb2 0 v' rfl, hb := h.hb, r0 := Kd.R_set hr hb2 (by decide) 0 v', r1 := Kd.R_set (Kd.R_grown2 h.r1 rfl hg (fun q e => h.a01 q e)) hb2 (by decide) 0 v', r2 := Kd.R_set (Kd.R_grown2 h.r2 rfl hg (fun q e => h.a02 q e)) hb2 (by decide) 0 v', a01 := n1, a02 := n2, a10 := sy _ n1, a20 := sy _ n2, a12 := h.a12, a21 := h.a21 }, hB.setCell h.hb _⟩
theorem MOwn.put1 {w W w2 : World} {base g : Nat} {v0 v1 v2 v' : Value} {l0 l1 l2 : List S23} {x : S23} (h : MOwn W base g v0 v1 v2 l0 l1 l2) (hr : Kd.R k23 23 w2 base (fun _ => True) v' (l1 ++ [x])) (hg : W.grownBy w2 v1.ownBlock) (hB : Below base w w2) (hat : v'.ownBlock = v1.ownBlock ∨ ∃ b, v'.ownBlock = some b ∧ W.heap.size ≤ b) (hbz : base ≤ W.heap.size) :
    MOwn (w2.setCell ⟨g, 1, none⟩ v') base g v0 v' v2 l0 (l1 ++ [x]) l2 ∧ Below base w (w2.setCell ⟨g, 1, none⟩ v') := by
  have hb2 := blk_grown h.b hg (Kd.R_ne h.r1 h.b (by decide))
  have hfar : ∀ (a : Value) (la : List S23), Kd.R k23 23 W base (fun _ => True) a la → (∀ q, v1.ownBlock = some q → some q ≠ a.ownBlock) → ∀ q, v'.ownBlock = some q → some q ≠ a.ownBlock := by
    intro a la hra hne q hq
    rcases hat with e | ⟨b, e, hbb⟩
    · exact hne q (e ▸ hq)
    · intro e2
      have h1 := Kd.R_lt hra q e2.symm
      rw [e] at hq
      cases hq
      omega
  have n0 := hfar v0 l0 h.r0 h.a10
  have n2 := hfar v2 l2 h.r2 h.a12
  have sy : ∀ (a : Value), (∀ q, v'.ownBlock = some q → some q ≠ a.ownBlock) → ∀ q, a.ownBlock = some q → some q ≠ v'.ownBlock := fun a hn q hq e => hn q e.symm hq.symm
  refine ⟨{ b := blk_put hb2 1 v' rfl, hb := h.hb, r1 := Kd.R_set hr hb2 (by decide) 1 v', r0 := Kd.R_set (Kd.R_grown2 h.r0 rfl hg (fun q e => h.a10 q e)) hb2 (by decide) 1 v', r2 := Kd.R_set (Kd.R_grown2 h.r2 rfl hg (fun q e => h.a12 q e)) hb2 (by decide) 1 v', a10 := n0, a12 := n2, a01 := sy _ n0, a21 := sy _ n2, a02 := h.a02, a20 := h.a20 }, hB.setCell h.hb _⟩
theorem MOwn.put2 {w W w2 : World} {base g : Nat} {v0 v1 v2 v' : Value} {l0 l1 l2 : List S23} {x : S23} (h : MOwn W base g v0 v1 v2 l0 l1 l2) (hr : Kd.R k23 23 w2 base (fun _ => True) v' (l2 ++ [x])) (hg : W.grownBy w2 v2.ownBlock) (hB : Below base w w2) (hat : v'.ownBlock = v2.ownBlock ∨ ∃ b, v'.ownBlock = some b ∧ W.heap.size ≤ b) (hbz : base ≤ W.heap.size) :
    MOwn (w2.setCell ⟨g, 2, none⟩ v') base g v0 v1 v' l0 l1 (l2 ++ [x]) ∧ Below base w (w2.setCell ⟨g, 2, none⟩ v') := by
  have hb2 := blk_grown h.b hg (Kd.R_ne h.r2 h.b (by decide))
  have hfar : ∀ (a : Value) (la : List S23), Kd.R k23 23 W base (fun _ => True) a la → (∀ q, v2.ownBlock = some q → some q ≠ a.ownBlock) → ∀ q, v'.ownBlock = some q → some q ≠ a.ownBlock := by
    intro a la hra hne q hq
    rcases hat with e | ⟨b, e, hbb⟩
    · exact hne q (e ▸ hq)
    · intro e2
      have h1 := Kd.R_lt hra q e2.symm
      rw [e] at hq
      cases hq
      omega
  have n0 := hfar v0 l0 h.r0 h.a20
  have n1 := hfar v1 l1 h.r1 h.a21
  have sy : ∀ (a : Value), (∀ q, v'.ownBlock = some q → some q ≠ a.ownBlock) → ∀ q, a.ownBlock = some q → some q ≠ v'.ownBlock := fun a hn q hq e => hn q e.symm hq.symm
  refine ⟨{ b := blk_put hb2 2 v' rfl, hb := h.hb, r2 := Kd.R_set hr hb2 (by decide) 2 v', r0 := Kd.R_set (Kd.R_grown2 h.r0 rfl hg (fun q e => h.a20 q e)) hb2 (by decide) 2 v', r1 := Kd.R_set (Kd.R_grown2 h.r1 rfl hg (fun q e => h.a21 q e)) hb2 (by decide) 2 v', a20 := n0, a21 := n1, a02 := sy _ n0, a12 := sy _ n1, a01 := h.a01, a10 := h.a10 }, hB.setCell h.hb _⟩
set_option maxHeartbeats 16000000 in
set_option maxRecDepth 20000 in
theorem put_0 (base g : Nat) (v0 v1 v2 : Value) (l0 l1 l2 : List S23) (what : ByteArray) (x : S23) (w : World) (hm : MOwn w base g v0 v1 v2 l0 l1 l2) (hw : what.toList = ([99, 108, 97, 115, 115] : List UInt8)) (hl : l0.length ≤ 1048576) (hbz : base ≤ w.heap.size) :
    Calls Tryz.prog 32 #[.pointer (some ⟨g, 0, none⟩), .string what, .agg #[.string x.f0, .string x.f1]] w fun e w' => ∃ v', e = .returned (.tuple #[]) ∧ MOwn w' base g v' v1 v2 (l0 ++ [x]) l1 l2 ∧ Below base w w' := by
  have hlt := blk_lt hm.b
  have hab := below_alloc (Below.refl w.heap.size w) (Obj.cells #[.string x.f0, .string x.f1] 23)
  have had := below_drew1 hab
  have HM := Aside0.mk (hm.below had hbz)
  have hcell : ((w.alloc (Obj.cells #[.string x.f0, .string x.f1] 23)).drew).cell? ⟨g, 0, none⟩ = some v0 := blk_cell HM.out.b 0
  have q0 := Aside0.mk hcell
  have qf : Aside0 (((w.alloc (Obj.cells #[.string x.f0, .string x.f1] 23)).drew).frozen? ⟨g, 0, none⟩ = false) := ⟨blk_frozen HM.out.b 0⟩
  have hpb : ((w.alloc (Obj.cells #[.string x.f0, .string x.f1] 23)).drew).heap[w.heap.size]? = some (Obj.cells #[.string x.f0, .string x.f1] 23 (0, 0)) := World.alloc_heap_new w (Obj.cells #[.string x.f0, .string x.f1] 23)
  have q1 : Aside0 (((w.alloc (Obj.cells #[.string x.f0, .string x.f1] 23)).drew).cell? ⟨w.heap.size, 0, none⟩ = some (.string x.f0)) := ⟨blk_cell hpb 0⟩
  have q2 : Aside0 (((w.alloc (Obj.cells #[.string x.f0, .string x.f1] 23)).drew).cell? ⟨w.heap.size, 1, none⟩ = some (.string x.f1)) := ⟨blk_cell hpb 1⟩
  have q0' : Aside0 (∀ o, (((w.alloc (Obj.cells #[.string x.f0, .string x.f1] 23)).drew).alloc o).cell? ⟨g, 0, none⟩ = some v0) := ⟨fun o => ((below_alloc (Below.refl _ _) o).cell (World.block_lt_of_cell? _ _ q0.out)).trans q0.out⟩
  have q1' : Aside0 (∀ o, (((w.alloc (Obj.cells #[.string x.f0, .string x.f1] 23)).drew).alloc o).cell? ⟨w.heap.size, 0, none⟩ = some (.string x.f0)) := ⟨fun o => ((below_alloc (Below.refl _ _) o).cell (World.block_lt_of_cell? _ _ q1.out)).trans q1.out⟩
  have q2' : Aside0 (∀ o, (((w.alloc (Obj.cells #[.string x.f0, .string x.f1] 23)).drew).alloc o).cell? ⟨w.heap.size, 1, none⟩ = some (.string x.f1)) := ⟨fun o => ((below_alloc (Below.refl _ _) o).cell (World.block_lt_of_cell? _ _ q2.out)).trans q2.out⟩
  have HR := Aside0.mk HM.out.r0
  have HBw : Aside0 (Below base w ((w.alloc (Obj.cells #[.string x.f0, .string x.f1] 23)).drew)) := ⟨had.mono hbz⟩
  have HBz : Aside0 (base ≤ ((w.alloc (Obj.cells #[.string x.f0, .string x.f1] 23)).drew).heap.size) := ⟨Nat.le_trans hbz had.size⟩
  have HLn : Aside0 ((l0.length + 1) * 32 ≤ 140737488355328) := ⟨by omega⟩
  have HGlt : Aside0 ((⟨g, 0, none⟩ : Addr).block < ((w.alloc (Obj.cells #[.string x.f0, .string x.f1] 23)).drew).heap.size) := ⟨blk_lt HM.out.b⟩
  have HGne : Aside0 (some g ≠ v0.ownBlock) := ⟨Kd.R_ne HM.out.r0 HM.out.b (by decide)⟩
  have HPne : Aside0 (some w.heap.size ≠ v0.ownBlock) := ⟨fun e => by have := Kd.R_lt hm.r0 w.heap.size e.symm; omega⟩
  have n0 : (what.toList == ([99, 108, 97, 115, 115] : List UInt8)) = true := by rw [hw]; decide
  have m0 : (what.toList = ([99, 108, 97, 115, 115] : List UInt8)) = True := by rw [hw]; exact eq_true rfl
  have hg := hlt
  clear hcell hpb hab had hm
  go_enter Tryz.func32, Tryz.ntmps32
  go_wp2_with fail
  refine start_ (n := 11) (S := fun w' => w'.cell? ⟨g, 0, none⟩ = some v0 ∧ w'.cell? ⟨w.heap.size, 0, none⟩ = some (.string x.f0) ∧ w'.cell? ⟨w.heap.size, 1, none⟩ = some (.string x.f1)) (ds := [10]) #[false, false, false, false, false, false, false, false, false, false, false] (by kernel_rfl) rfl rfl ⟨q0.out, q1.out, q2.out⟩ (fun hHeld => ?_)
  refine pure_ (i := 0) (N := some 9) (v := ?_) (a' := ?_) #[true, false, false, false, false, false, false, false, false, false, false] rfl rfl (by kernel_rfl) (fun _ _ _ h => h) (Or.inl ⟨by rfl, ?_⟩) ?_ ?_
  rotate_left
  · intro w'
    go_simp
    with_reducible rfl
  rotate_left
  · simp only [Act.put, List.setIfInBounds_toArray, List.set_cons_zero, List.set_cons_succ, i64_w, i32_w]
    rfl
  refine pure_ (i := 1) (N := some 10) (v := ?_) (a' := ?_) #[true, true, false, false, false, false, false, false, false, false, false] rfl rfl (by kernel_rfl) (fun _ _ _ h => h) (Or.inl ⟨by rfl, ?_⟩) ?_ ?_
  rotate_left
  · intro w'
    go_simp
    with_reducible rfl
  rotate_left
  · simp only [Act.put, List.setIfInBounds_toArray, List.set_cons_zero, List.set_cons_succ, i64_w, i32_w]
    rfl
  refine pure_ (i := 2) (N := some 11) (v := ?_) (a' := ?_) #[true, true, true, false, false, false, false, false, false, false, false] rfl rfl (by kernel_rfl) (fun _ _ _ h => h) (Or.inl ⟨by rfl, ?_⟩) ?_ ?_
  rotate_left
  · intro w'
    go_simp
    with_reducible rfl
  rotate_left
  · simp only [Act.put, List.setIfInBounds_toArray, List.set_cons_zero, List.set_cons_succ, i64_w, i32_w]
    rfl
  refine pure_ (i := 3) (N := some 12) (v := ?_) (a' := ?_) #[true, true, true, true, false, false, false, false, false, false, false] rfl rfl (by kernel_rfl) (fun _ _ _ h => h) (Or.inl ⟨by rfl, ?_⟩) ?_ ?_
  rotate_left
  · intro w'
    go_simp
    with_reducible rfl
  rotate_left
  · simp only [Act.put, List.setIfInBounds_toArray, List.set_cons_zero, List.set_cons_succ, i64_w, i32_w]
    rfl
  refine take_ (i := 4) (N := some 13) (v := ?_) (a' := ?_) #[true, true, true, true, true, false, false, false, false, false, false] rfl rfl (by kernel_rfl) (fun _ _ _ h => h) (Or.inl ⟨by rfl, ?_⟩) hHeld ?_ ?_
  rotate_left
  · rintro w' ⟨s0, s1, s2⟩
    go_simp
    with_reducible rfl
  rotate_left
  · simp only [Act.put, List.setIfInBounds_toArray, List.set_cons_zero, List.set_cons_succ, i64_w, i32_w]
    rfl
  refine take_ (i := 5) (N := some 14) (v := ?_) (a' := ?_) #[true, true, true, true, true, true, false, false, false, false, false] rfl rfl (by kernel_rfl) (fun _ _ _ h => h) (Or.inl ⟨by rfl, ?_⟩) hHeld ?_ ?_
  rotate_left
  · rintro w' ⟨s0, s1, s2⟩
    go_simp
    with_reducible rfl
  rotate_left
  · simp only [Act.put, List.setIfInBounds_toArray, List.set_cons_zero, List.set_cons_succ, i64_w, i32_w]
    rfl
  refine one_ (i := 6) (N := some 15) #[true, true, true, true, true, true, true, false, false, false, false] rfl rfl (by kernel_rfl) (by decide) (fun K hK => ?_)
  refine value_ (w1 := ?_) (v := ?_) (by rfl) rfl ?_ ?_
  rotate_left 2
  · go_simp
    constructor
    · rfl
    · rfl
  refine hK.out _ _ ⟨(q0'.out _), (q1'.out _), (q2'.out _)⟩ (fun hHeld => ?_)
  clear hK K
  refine norm_ (a' := ?_) ?_ ?_
  rotate_left
  · show Act.put _ (some 15) _ = _
    simp only [Act.put, List.setIfInBounds_toArray, List.set_cons_zero, List.set_cons_succ, i64_w, i32_w]
    rfl
  refine one_ (i := 7) (N := some 16) #[true, true, true, true, true, true, true, true, false, false, false] rfl rfl (by kernel_rfl) (by decide) (fun K hK => ?_)
  refine Kd.R_append_step k23 (w0 := w) base (by rfl) _ _ 32 23 (.agg #[.string ⟨#[]⟩, .string ⟨#[]⟩]) 32 rfl Tryz.underlying32 pair_info rfl (by decide) (by decide) v0 l0 x [.string x.f0, .string x.f1] (fun _ => True) (fun _ => False) rfl (by first | rfl | (show Value.slice (some ⟨w.heap.size + 1, 0, none⟩) 1 1 = Value.slice (some ⟨((w.alloc (Obj.cells #[.string x.f0, .string x.f1] 23)).drew).heap.size, 0, none⟩) 1 1; rw [show ((w.alloc (Obj.cells #[.string x.f0, .string x.f1] 23)).drew).heap.size = w.heap.size + 1 from World.size_alloc w _])) (k23_mkM _ _ _ x) (fun _ hk => hk.elim) (fun _ _ => trivial) HR.out HBw.out HBz.out HLn.out ?_
  intro v' w2 hR2 hB2 hg2 hat2
  obtain ⟨Av, nv, cv, hv⟩ : ∃ A n c, v' = Value.slice A n c := by obtain ⟨A, c, e⟩ := Kd.R_slice hR2; exact ⟨A, _, c, e⟩
  subst hv
  have HR2 := Aside0.mk hR2
  have HB2 := Aside0.mk hB2
  have HG2 := Aside0.mk hg2
  have HT2 := Aside0.mk hat2
  have t0 := hg2.cell q0.out HGne.out
  have tf := (hg2.frozen_far ⟨g, 0, none⟩ HGlt.out HGne.out).trans qf.out
  have t1 := hg2.cell q1.out HPne.out
  have t2 := hg2.cell q2.out HPne.out
  clear hR2 hB2 hg2 hat2
  refine hK.out _ _ ⟨t0, t1, t2⟩ (fun hHeld => ?_)
  clear hK K
  refine norm_ (a' := ?_) ?_ ?_
  rotate_left
  · show Act.put _ (some 16) _ = _
    simp only [Act.put, List.setIfInBounds_toArray, List.set_cons_zero, List.set_cons_succ, i64_w, i32_w]
    rfl
  refine pure_ (i := 8) (N := some 17) (v := ?_) (a' := ?_) #[true, true, true, true, true, true, true, true, true, false, false] rfl rfl (by kernel_rfl) (fun _ _ _ h => h) (Or.inl ⟨by rfl, ?_⟩) ?_ ?_
  rotate_left
  · intro w'
    go_simp
    with_reducible rfl
  rotate_left
  · simp only [Act.put, List.setIfInBounds_toArray, List.set_cons_zero, List.set_cons_succ, i64_w, i32_w]
    rfl
  refine pure_ (i := 9) (N := some 18) (v := ?_) (a' := ?_) #[true, true, true, true, true, true, true, true, true, true, false] rfl rfl (by kernel_rfl) (fun _ _ _ h => h) (Or.inl ⟨by rfl, ?_⟩) ?_ ?_
  rotate_left
  · intro w'
    go_simp
    with_reducible rfl
  rotate_left
  · simp only [Act.put, List.setIfInBounds_toArray, List.set_cons_zero, List.set_cons_succ, i64_w, i32_w]
    rfl
  refine last_ (i := 10) (N := none) #[true, true, true, true, true, true, true, true, true, true, true] rfl rfl (by kernel_rfl) (by decide) (fun K hK => ?_)
  refine skip_ (w1 := ?_) (by rfl) rfl ?_ ?_
  rotate_left
  · go_simp
    rfl
  refine hK.out _ _ ?_
  clear hK K
  refine done_ (by kernel_rfl) ?_
  go_wp2_with fail
  have hfin := HM.out.put0 HR2.out HG2.out HB2.out HT2.out HBz.out
  first
    | exact bodyPost_end (v := .tuple #[]) (by simp [results, Tryz.results32, go_sem]) rfl ⟨_, rfl, hfin⟩
    | exact bodyPost_end (v := .tuple #[]) (by simp [results, Tryz.f32, go_sem]) rfl ⟨_, rfl, hfin⟩
    | exact bodyPost_ret (v := .tuple #[]) (by simp [results, Tryz.results32, go_sem]) rfl ⟨_, rfl, hfin⟩
set_option maxHeartbeats 16000000 in
set_option maxRecDepth 20000 in
theorem put_1 (base g : Nat) (v0 v1 v2 : Value) (l0 l1 l2 : List S23) (what : ByteArray) (x : S23) (w : World) (hm : MOwn w base g v0 v1 v2 l0 l1 l2) (hw : what.toList = ([102, 105, 101, 108, 100] : List UInt8)) (hl : l1.length ≤ 1048576) (hbz : base ≤ w.heap.size) :
    Calls Tryz.prog 32 #[.pointer (some ⟨g, 0, none⟩), .string what, .agg #[.string x.f0, .string x.f1]] w fun e w' => ∃ v', e = .returned (.tuple #[]) ∧ MOwn w' base g v0 v' v2 l0 (l1 ++ [x]) l2 ∧ Below base w w' := by
  have hlt := blk_lt hm.b
  have hab := below_alloc (Below.refl w.heap.size w) (Obj.cells #[.string x.f0, .string x.f1] 23)
  have had := below_drew1 hab
  have HM := Aside0.mk (hm.below had hbz)
  have hcell : ((w.alloc (Obj.cells #[.string x.f0, .string x.f1] 23)).drew).cell? ⟨g, 1, none⟩ = some v1 := blk_cell HM.out.b 1
  have q0 := Aside0.mk hcell
  have qf : Aside0 (((w.alloc (Obj.cells #[.string x.f0, .string x.f1] 23)).drew).frozen? ⟨g, 1, none⟩ = false) := ⟨blk_frozen HM.out.b 1⟩
  have hpb : ((w.alloc (Obj.cells #[.string x.f0, .string x.f1] 23)).drew).heap[w.heap.size]? = some (Obj.cells #[.string x.f0, .string x.f1] 23 (0, 0)) := World.alloc_heap_new w (Obj.cells #[.string x.f0, .string x.f1] 23)
  have q1 : Aside0 (((w.alloc (Obj.cells #[.string x.f0, .string x.f1] 23)).drew).cell? ⟨w.heap.size, 0, none⟩ = some (.string x.f0)) := ⟨blk_cell hpb 0⟩
  have q2 : Aside0 (((w.alloc (Obj.cells #[.string x.f0, .string x.f1] 23)).drew).cell? ⟨w.heap.size, 1, none⟩ = some (.string x.f1)) := ⟨blk_cell hpb 1⟩
  have q0' : Aside0 (∀ o, (((w.alloc (Obj.cells #[.string x.f0, .string x.f1] 23)).drew).alloc o).cell? ⟨g, 1, none⟩ = some v1) := ⟨fun o => ((below_alloc (Below.refl _ _) o).cell (World.block_lt_of_cell? _ _ q0.out)).trans q0.out⟩
  have q1' : Aside0 (∀ o, (((w.alloc (Obj.cells #[.string x.f0, .string x.f1] 23)).drew).alloc o).cell? ⟨w.heap.size, 0, none⟩ = some (.string x.f0)) := ⟨fun o => ((below_alloc (Below.refl _ _) o).cell (World.block_lt_of_cell? _ _ q1.out)).trans q1.out⟩
  have q2' : Aside0 (∀ o, (((w.alloc (Obj.cells #[.string x.f0, .string x.f1] 23)).drew).alloc o).cell? ⟨w.heap.size, 1, none⟩ = some (.string x.f1)) := ⟨fun o => ((below_alloc (Below.refl _ _) o).cell (World.block_lt_of_cell? _ _ q2.out)).trans q2.out⟩
  have HR := Aside0.mk HM.out.r1
  have HBw : Aside0 (Below base w ((w.alloc (Obj.cells #[.string x.f0, .string x.f1] 23)).drew)) := ⟨had.mono hbz⟩
  have HBz : Aside0 (base ≤ ((w.alloc (Obj.cells #[.string x.f0, .string x.f1] 23)).drew).heap.size) := ⟨Nat.le_trans hbz had.size⟩
  have HLn : Aside0 ((l1.length + 1) * 32 ≤ 140737488355328) := ⟨by omega⟩
  have HGlt : Aside0 ((⟨g, 1, none⟩ : Addr).block < ((w.alloc (Obj.cells #[.string x.f0, .string x.f1] 23)).drew).heap.size) := ⟨blk_lt HM.out.b⟩
  have HGne : Aside0 (some g ≠ v1.ownBlock) := ⟨Kd.R_ne HM.out.r1 HM.out.b (by decide)⟩
  have HPne : Aside0 (some w.heap.size ≠ v1.ownBlock) := ⟨fun e => by have := Kd.R_lt hm.r1 w.heap.size e.symm; omega⟩
  have n0 : (what.toList == ([99, 108, 97, 115, 115] : List UInt8)) = false := by rw [hw]; decide
  have m0 : (what.toList = ([99, 108, 97, 115, 115] : List UInt8)) = False := by rw [hw]; exact eq_false (by decide)
  have n1 : (what.toList == ([102, 105, 101, 108, 100] : List UInt8)) = true := by rw [hw]; decide
  have m1 : (what.toList = ([102, 105, 101, 108, 100] : List UInt8)) = True := by rw [hw]; exact eq_true rfl
  have hg := hlt
  clear hcell hpb hab had hm
  go_enter Tryz.func32, Tryz.ntmps32
  go_wp2_with fail
  refine start_ (n := 11) (S := fun w' => w'.cell? ⟨g, 1, none⟩ = some v1 ∧ w'.cell? ⟨w.heap.size, 0, none⟩ = some (.string x.f0) ∧ w'.cell? ⟨w.heap.size, 1, none⟩ = some (.string x.f1)) (ds := [10]) #[false, false, false, false, false, false, false, false, false, false, false] (by kernel_rfl) rfl rfl ⟨q0.out, q1.out, q2.out⟩ (fun hHeld => ?_)
  refine pure_ (i := 0) (N := some 21) (v := ?_) (a' := ?_) #[true, false, false, false, false, false, false, false, false, false, false] rfl rfl (by kernel_rfl) (fun _ _ _ h => h) (Or.inl ⟨by rfl, ?_⟩) ?_ ?_
  rotate_left
  · intro w'
    go_simp
    with_reducible rfl
  rotate_left
  · simp only [Act.put, List.setIfInBounds_toArray, List.set_cons_zero, List.set_cons_succ, i64_w, i32_w]
    rfl
  refine pure_ (i := 1) (N := some 22) (v := ?_) (a' := ?_) #[true, true, false, false, false, false, false, false, false, false, false] rfl rfl (by kernel_rfl) (fun _ _ _ h => h) (Or.inl ⟨by rfl, ?_⟩) ?_ ?_
  rotate_left
  · intro w'
    go_simp
    with_reducible rfl
  rotate_left
  · simp only [Act.put, List.setIfInBounds_toArray, List.set_cons_zero, List.set_cons_succ, i64_w, i32_w]
    rfl
  refine pure_ (i := 2) (N := some 23) (v := ?_) (a' := ?_) #[true, true, true, false, false, false, false, false, false, false, false] rfl rfl (by kernel_rfl) (fun _ _ _ h => h) (Or.inl ⟨by rfl, ?_⟩) ?_ ?_
  rotate_left
  · intro w'
    go_simp
    with_reducible rfl
  rotate_left
  · simp only [Act.put, List.setIfInBounds_toArray, List.set_cons_zero, List.set_cons_succ, i64_w, i32_w]
    rfl
  refine pure_ (i := 3) (N := some 24) (v := ?_) (a' := ?_) #[true, true, true, true, false, false, false, false, false, false, false] rfl rfl (by kernel_rfl) (fun _ _ _ h => h) (Or.inl ⟨by rfl, ?_⟩) ?_ ?_
  rotate_left
  · intro w'
    go_simp
    with_reducible rfl
  rotate_left
  · simp only [Act.put, List.setIfInBounds_toArray, List.set_cons_zero, List.set_cons_succ, i64_w, i32_w]
    rfl
  refine take_ (i := 4) (N := some 25) (v := ?_) (a' := ?_) #[true, true, true, true, true, false, false, false, false, false, false] rfl rfl (by kernel_rfl) (fun _ _ _ h => h) (Or.inl ⟨by rfl, ?_⟩) hHeld ?_ ?_
  rotate_left
  · rintro w' ⟨s0, s1, s2⟩
    go_simp
    with_reducible rfl
  rotate_left
  · simp only [Act.put, List.setIfInBounds_toArray, List.set_cons_zero, List.set_cons_succ, i64_w, i32_w]
    rfl
  refine take_ (i := 5) (N := some 26) (v := ?_) (a' := ?_) #[true, true, true, true, true, true, false, false, false, false, false] rfl rfl (by kernel_rfl) (fun _ _ _ h => h) (Or.inl ⟨by rfl, ?_⟩) hHeld ?_ ?_
  rotate_left
  · rintro w' ⟨s0, s1, s2⟩
    go_simp
    with_reducible rfl
  rotate_left
  · simp only [Act.put, List.setIfInBounds_toArray, List.set_cons_zero, List.set_cons_succ, i64_w, i32_w]
    rfl
  refine one_ (i := 6) (N := some 27) #[true, true, true, true, true, true, true, false, false, false, false] rfl rfl (by kernel_rfl) (by decide) (fun K hK => ?_)
  refine value_ (w1 := ?_) (v := ?_) (by rfl) rfl ?_ ?_
  rotate_left 2
  · go_simp
    constructor
    · rfl
    · rfl
  refine hK.out _ _ ⟨(q0'.out _), (q1'.out _), (q2'.out _)⟩ (fun hHeld => ?_)
  clear hK K
  refine norm_ (a' := ?_) ?_ ?_
  rotate_left
  · show Act.put _ (some 27) _ = _
    simp only [Act.put, List.setIfInBounds_toArray, List.set_cons_zero, List.set_cons_succ, i64_w, i32_w]
    rfl
  refine one_ (i := 7) (N := some 28) #[true, true, true, true, true, true, true, true, false, false, false] rfl rfl (by kernel_rfl) (by decide) (fun K hK => ?_)
  refine Kd.R_append_step k23 (w0 := w) base (by rfl) _ _ 32 23 (.agg #[.string ⟨#[]⟩, .string ⟨#[]⟩]) 32 rfl Tryz.underlying32 pair_info rfl (by decide) (by decide) v1 l1 x [.string x.f0, .string x.f1] (fun _ => True) (fun _ => False) rfl (by first | rfl | (show Value.slice (some ⟨w.heap.size + 1, 0, none⟩) 1 1 = Value.slice (some ⟨((w.alloc (Obj.cells #[.string x.f0, .string x.f1] 23)).drew).heap.size, 0, none⟩) 1 1; rw [show ((w.alloc (Obj.cells #[.string x.f0, .string x.f1] 23)).drew).heap.size = w.heap.size + 1 from World.size_alloc w _])) (k23_mkM _ _ _ x) (fun _ hk => hk.elim) (fun _ _ => trivial) HR.out HBw.out HBz.out HLn.out ?_
  intro v' w2 hR2 hB2 hg2 hat2
  obtain ⟨Av, nv, cv, hv⟩ : ∃ A n c, v' = Value.slice A n c := by obtain ⟨A, c, e⟩ := Kd.R_slice hR2; exact ⟨A, _, c, e⟩
  subst hv
  have HR2 := Aside0.mk hR2
  have HB2 := Aside0.mk hB2
  have HG2 := Aside0.mk hg2
  have HT2 := Aside0.mk hat2
  have t0 := hg2.cell q0.out HGne.out
  have tf := (hg2.frozen_far ⟨g, 1, none⟩ HGlt.out HGne.out).trans qf.out
  have t1 := hg2.cell q1.out HPne.out
  have t2 := hg2.cell q2.out HPne.out
  clear hR2 hB2 hg2 hat2
  refine hK.out _ _ ⟨t0, t1, t2⟩ (fun hHeld => ?_)
  clear hK K
  refine norm_ (a' := ?_) ?_ ?_
  rotate_left
  · show Act.put _ (some 28) _ = _
    simp only [Act.put, List.setIfInBounds_toArray, List.set_cons_zero, List.set_cons_succ, i64_w, i32_w]
    rfl
  refine pure_ (i := 8) (N := some 29) (v := ?_) (a' := ?_) #[true, true, true, true, true, true, true, true, true, false, false] rfl rfl (by kernel_rfl) (fun _ _ _ h => h) (Or.inl ⟨by rfl, ?_⟩) ?_ ?_
  rotate_left
  · intro w'
    go_simp
    with_reducible rfl
  rotate_left
  · simp only [Act.put, List.setIfInBounds_toArray, List.set_cons_zero, List.set_cons_succ, i64_w, i32_w]
    rfl
  refine pure_ (i := 9) (N := some 30) (v := ?_) (a' := ?_) #[true, true, true, true, true, true, true, true, true, true, false] rfl rfl (by kernel_rfl) (fun _ _ _ h => h) (Or.inl ⟨by rfl, ?_⟩) ?_ ?_
  rotate_left
  · intro w'
    go_simp
    with_reducible rfl
  rotate_left
  · simp only [Act.put, List.setIfInBounds_toArray, List.set_cons_zero, List.set_cons_succ, i64_w, i32_w]
    rfl
  refine last_ (i := 10) (N := none) #[true, true, true, true, true, true, true, true, true, true, true] rfl rfl (by kernel_rfl) (by decide) (fun K hK => ?_)
  refine skip_ (w1 := ?_) (by rfl) rfl ?_ ?_
  rotate_left
  · go_simp
    rfl
  refine hK.out _ _ ?_
  clear hK K
  refine done_ (by kernel_rfl) ?_
  go_wp2_with fail
  have hfin := HM.out.put1 HR2.out HG2.out HB2.out HT2.out HBz.out
  first
    | exact bodyPost_end (v := .tuple #[]) (by simp [results, Tryz.results32, go_sem]) rfl ⟨_, rfl, hfin⟩
    | exact bodyPost_end (v := .tuple #[]) (by simp [results, Tryz.f32, go_sem]) rfl ⟨_, rfl, hfin⟩
    | exact bodyPost_ret (v := .tuple #[]) (by simp [results, Tryz.results32, go_sem]) rfl ⟨_, rfl, hfin⟩
set_option maxHeartbeats 16000000 in
set_option maxRecDepth 20000 in
theorem put_2 (base g : Nat) (v0 v1 v2 : Value) (l0 l1 l2 : List S23) (what : ByteArray) (x : S23) (w : World) (hm : MOwn w base g v0 v1 v2 l0 l1 l2) (hw : what.toList = ([109, 101, 116, 104, 111, 100] : List UInt8)) (hl : l2.length ≤ 1048576) (hbz : base ≤ w.heap.size) :
    Calls Tryz.prog 32 #[.pointer (some ⟨g, 0, none⟩), .string what, .agg #[.string x.f0, .string x.f1]] w fun e w' => ∃ v', e = .returned (.tuple #[]) ∧ MOwn w' base g v0 v1 v' l0 l1 (l2 ++ [x]) ∧ Below base w w' := by
  have hlt := blk_lt hm.b
  have hab := below_alloc (Below.refl w.heap.size w) (Obj.cells #[.string x.f0, .string x.f1] 23)
  have had := below_drew1 hab
  have HM := Aside0.mk (hm.below had hbz)
  have hcell : ((w.alloc (Obj.cells #[.string x.f0, .string x.f1] 23)).drew).cell? ⟨g, 2, none⟩ = some v2 := blk_cell HM.out.b 2
  have q0 := Aside0.mk hcell
  have qf : Aside0 (((w.alloc (Obj.cells #[.string x.f0, .string x.f1] 23)).drew).frozen? ⟨g, 2, none⟩ = false) := ⟨blk_frozen HM.out.b 2⟩
  have hpb : ((w.alloc (Obj.cells #[.string x.f0, .string x.f1] 23)).drew).heap[w.heap.size]? = some (Obj.cells #[.string x.f0, .string x.f1] 23 (0, 0)) := World.alloc_heap_new w (Obj.cells #[.string x.f0, .string x.f1] 23)
  have q1 : Aside0 (((w.alloc (Obj.cells #[.string x.f0, .string x.f1] 23)).drew).cell? ⟨w.heap.size, 0, none⟩ = some (.string x.f0)) := ⟨blk_cell hpb 0⟩
  have q2 : Aside0 (((w.alloc (Obj.cells #[.string x.f0, .string x.f1] 23)).drew).cell? ⟨w.heap.size, 1, none⟩ = some (.string x.f1)) := ⟨blk_cell hpb 1⟩
  have q0' : Aside0 (∀ o, (((w.alloc (Obj.cells #[.string x.f0, .string x.f1] 23)).drew).alloc o).cell? ⟨g, 2, none⟩ = some v2) := ⟨fun o => ((below_alloc (Below.refl _ _) o).cell (World.block_lt_of_cell? _ _ q0.out)).trans q0.out⟩
  have q1' : Aside0 (∀ o, (((w.alloc (Obj.cells #[.string x.f0, .string x.f1] 23)).drew).alloc o).cell? ⟨w.heap.size, 0, none⟩ = some (.string x.f0)) := ⟨fun o => ((below_alloc (Below.refl _ _) o).cell (World.block_lt_of_cell? _ _ q1.out)).trans q1.out⟩
  have q2' : Aside0 (∀ o, (((w.alloc (Obj.cells #[.string x.f0, .string x.f1] 23)).drew).alloc o).cell? ⟨w.heap.size, 1, none⟩ = some (.string x.f1)) := ⟨fun o => ((below_alloc (Below.refl _ _) o).cell (World.block_lt_of_cell? _ _ q2.out)).trans q2.out⟩
  have HR := Aside0.mk HM.out.r2
  have HBw : Aside0 (Below base w ((w.alloc (Obj.cells #[.string x.f0, .string x.f1] 23)).drew)) := ⟨had.mono hbz⟩
  have HBz : Aside0 (base ≤ ((w.alloc (Obj.cells #[.string x.f0, .string x.f1] 23)).drew).heap.size) := ⟨Nat.le_trans hbz had.size⟩
  have HLn : Aside0 ((l2.length + 1) * 32 ≤ 140737488355328) := ⟨by omega⟩
  have HGlt : Aside0 ((⟨g, 2, none⟩ : Addr).block < ((w.alloc (Obj.cells #[.string x.f0, .string x.f1] 23)).drew).heap.size) := ⟨blk_lt HM.out.b⟩
  have HGne : Aside0 (some g ≠ v2.ownBlock) := ⟨Kd.R_ne HM.out.r2 HM.out.b (by decide)⟩
  have HPne : Aside0 (some w.heap.size ≠ v2.ownBlock) := ⟨fun e => by have := Kd.R_lt hm.r2 w.heap.size e.symm; omega⟩
  have n0 : (what.toList == ([99, 108, 97, 115, 115] : List UInt8)) = false := by rw [hw]; decide
  have m0 : (what.toList = ([99, 108, 97, 115, 115] : List UInt8)) = False := by rw [hw]; exact eq_false (by decide)
  have n1 : (what.toList == ([102, 105, 101, 108, 100] : List UInt8)) = false := by rw [hw]; decide
  have m1 : (what.toList = ([102, 105, 101, 108, 100] : List UInt8)) = False := by rw [hw]; exact eq_false (by decide)
  have n2 : (what.toList == ([109, 101, 116, 104, 111, 100] : List UInt8)) = true := by rw [hw]; decide
  have m2 : (what.toList = ([109, 101, 116, 104, 111, 100] : List UInt8)) = True := by rw [hw]; exact eq_true rfl
  have hg := hlt
  clear hcell hpb hab had hm
  go_enter Tryz.func32, Tryz.ntmps32
  go_wp2_with fail
  refine start_ (n := 11) (S := fun w' => w'.cell? ⟨g, 2, none⟩ = some v2 ∧ w'.cell? ⟨w.heap.size, 0, none⟩ = some (.string x.f0) ∧ w'.cell? ⟨w.heap.size, 1, none⟩ = some (.string x.f1)) (ds := [10]) #[false, false, false, false, false, false, false, false, false, false, false] (by kernel_rfl) rfl rfl ⟨q0.out, q1.out, q2.out⟩ (fun hHeld => ?_)
  refine pure_ (i := 0) (N := some 33) (v := ?_) (a' := ?_) #[true, false, false, false, false, false, false, false, false, false, false] rfl rfl (by kernel_rfl) (fun _ _ _ h => h) (Or.inl ⟨by rfl, ?_⟩) ?_ ?_
  rotate_left
  · intro w'
    go_simp
    with_reducible rfl
  rotate_left
  · simp only [Act.put, List.setIfInBounds_toArray, List.set_cons_zero, List.set_cons_succ, i64_w, i32_w]
    rfl
  refine pure_ (i := 1) (N := some 34) (v := ?_) (a' := ?_) #[true, true, false, false, false, false, false, false, false, false, false] rfl rfl (by kernel_rfl) (fun _ _ _ h => h) (Or.inl ⟨by rfl, ?_⟩) ?_ ?_
  rotate_left
  · intro w'
    go_simp
    with_reducible rfl
  rotate_left
  · simp only [Act.put, List.setIfInBounds_toArray, List.set_cons_zero, List.set_cons_succ, i64_w, i32_w]
    rfl
  refine pure_ (i := 2) (N := some 35) (v := ?_) (a' := ?_) #[true, true, true, false, false, false, false, false, false, false, false] rfl rfl (by kernel_rfl) (fun _ _ _ h => h) (Or.inl ⟨by rfl, ?_⟩) ?_ ?_
  rotate_left
  · intro w'
    go_simp
    with_reducible rfl
  rotate_left
  · simp only [Act.put, List.setIfInBounds_toArray, List.set_cons_zero, List.set_cons_succ, i64_w, i32_w]
    rfl
  refine pure_ (i := 3) (N := some 36) (v := ?_) (a' := ?_) #[true, true, true, true, false, false, false, false, false, false, false] rfl rfl (by kernel_rfl) (fun _ _ _ h => h) (Or.inl ⟨by rfl, ?_⟩) ?_ ?_
  rotate_left
  · intro w'
    go_simp
    with_reducible rfl
  rotate_left
  · simp only [Act.put, List.setIfInBounds_toArray, List.set_cons_zero, List.set_cons_succ, i64_w, i32_w]
    rfl
  refine take_ (i := 4) (N := some 37) (v := ?_) (a' := ?_) #[true, true, true, true, true, false, false, false, false, false, false] rfl rfl (by kernel_rfl) (fun _ _ _ h => h) (Or.inl ⟨by rfl, ?_⟩) hHeld ?_ ?_
  rotate_left
  · rintro w' ⟨s0, s1, s2⟩
    go_simp
    with_reducible rfl
  rotate_left
  · simp only [Act.put, List.setIfInBounds_toArray, List.set_cons_zero, List.set_cons_succ, i64_w, i32_w]
    rfl
  refine take_ (i := 5) (N := some 38) (v := ?_) (a' := ?_) #[true, true, true, true, true, true, false, false, false, false, false] rfl rfl (by kernel_rfl) (fun _ _ _ h => h) (Or.inl ⟨by rfl, ?_⟩) hHeld ?_ ?_
  rotate_left
  · rintro w' ⟨s0, s1, s2⟩
    go_simp
    with_reducible rfl
  rotate_left
  · simp only [Act.put, List.setIfInBounds_toArray, List.set_cons_zero, List.set_cons_succ, i64_w, i32_w]
    rfl
  refine one_ (i := 6) (N := some 39) #[true, true, true, true, true, true, true, false, false, false, false] rfl rfl (by kernel_rfl) (by decide) (fun K hK => ?_)
  refine value_ (w1 := ?_) (v := ?_) (by rfl) rfl ?_ ?_
  rotate_left 2
  · go_simp
    constructor
    · rfl
    · rfl
  refine hK.out _ _ ⟨(q0'.out _), (q1'.out _), (q2'.out _)⟩ (fun hHeld => ?_)
  clear hK K
  refine norm_ (a' := ?_) ?_ ?_
  rotate_left
  · show Act.put _ (some 39) _ = _
    simp only [Act.put, List.setIfInBounds_toArray, List.set_cons_zero, List.set_cons_succ, i64_w, i32_w]
    rfl
  refine one_ (i := 7) (N := some 40) #[true, true, true, true, true, true, true, true, false, false, false] rfl rfl (by kernel_rfl) (by decide) (fun K hK => ?_)
  refine Kd.R_append_step k23 (w0 := w) base (by rfl) _ _ 32 23 (.agg #[.string ⟨#[]⟩, .string ⟨#[]⟩]) 32 rfl Tryz.underlying32 pair_info rfl (by decide) (by decide) v2 l2 x [.string x.f0, .string x.f1] (fun _ => True) (fun _ => False) rfl (by first | rfl | (show Value.slice (some ⟨w.heap.size + 1, 0, none⟩) 1 1 = Value.slice (some ⟨((w.alloc (Obj.cells #[.string x.f0, .string x.f1] 23)).drew).heap.size, 0, none⟩) 1 1; rw [show ((w.alloc (Obj.cells #[.string x.f0, .string x.f1] 23)).drew).heap.size = w.heap.size + 1 from World.size_alloc w _])) (k23_mkM _ _ _ x) (fun _ hk => hk.elim) (fun _ _ => trivial) HR.out HBw.out HBz.out HLn.out ?_
  intro v' w2 hR2 hB2 hg2 hat2
  obtain ⟨Av, nv, cv, hv⟩ : ∃ A n c, v' = Value.slice A n c := by obtain ⟨A, c, e⟩ := Kd.R_slice hR2; exact ⟨A, _, c, e⟩
  subst hv
  have HR2 := Aside0.mk hR2
  have HB2 := Aside0.mk hB2
  have HG2 := Aside0.mk hg2
  have HT2 := Aside0.mk hat2
  have t0 := hg2.cell q0.out HGne.out
  have tf := (hg2.frozen_far ⟨g, 2, none⟩ HGlt.out HGne.out).trans qf.out
  have t1 := hg2.cell q1.out HPne.out
  have t2 := hg2.cell q2.out HPne.out
  clear hR2 hB2 hg2 hat2
  refine hK.out _ _ ⟨t0, t1, t2⟩ (fun hHeld => ?_)
  clear hK K
  refine norm_ (a' := ?_) ?_ ?_
  rotate_left
  · show Act.put _ (some 40) _ = _
    simp only [Act.put, List.setIfInBounds_toArray, List.set_cons_zero, List.set_cons_succ, i64_w, i32_w]
    rfl
  refine pure_ (i := 8) (N := some 41) (v := ?_) (a' := ?_) #[true, true, true, true, true, true, true, true, true, false, false] rfl rfl (by kernel_rfl) (fun _ _ _ h => h) (Or.inl ⟨by rfl, ?_⟩) ?_ ?_
  rotate_left
  · intro w'
    go_simp
    with_reducible rfl
  rotate_left
  · simp only [Act.put, List.setIfInBounds_toArray, List.set_cons_zero, List.set_cons_succ, i64_w, i32_w]
    rfl
  refine pure_ (i := 9) (N := some 42) (v := ?_) (a' := ?_) #[true, true, true, true, true, true, true, true, true, true, false] rfl rfl (by kernel_rfl) (fun _ _ _ h => h) (Or.inl ⟨by rfl, ?_⟩) ?_ ?_
  rotate_left
  · intro w'
    go_simp
    with_reducible rfl
  rotate_left
  · simp only [Act.put, List.setIfInBounds_toArray, List.set_cons_zero, List.set_cons_succ, i64_w, i32_w]
    rfl
  refine last_ (i := 10) (N := none) #[true, true, true, true, true, true, true, true, true, true, true] rfl rfl (by kernel_rfl) (by decide) (fun K hK => ?_)
  refine skip_ (w1 := ?_) (by rfl) rfl ?_ ?_
  rotate_left
  · go_simp
    rfl
  refine hK.out _ _ ?_
  clear hK K
  refine done_ (by kernel_rfl) ?_
  go_wp2_with fail
  have hfin := HM.out.put2 HR2.out HG2.out HB2.out HT2.out HBz.out
  first
    | exact bodyPost_end (v := .tuple #[]) (by simp [results, Tryz.results32, go_sem]) rfl ⟨_, rfl, hfin⟩
    | exact bodyPost_end (v := .tuple #[]) (by simp [results, Tryz.f32, go_sem]) rfl ⟨_, rfl, hfin⟩
    | exact bodyPost_ret (v := .tuple #[]) (by simp [results, Tryz.results32, go_sem]) rfl ⟨_, rfl, hfin⟩
end Go.Proofs.YtaokkkolbifdpaaGreatDoor.Hand
end

section
namespace Go.Proofs.YtaokkkolbifdpaaGreatDoor.Hand
open Go.RowKit Go.Proofs.YtaokkkolbifdpaaGreatDoorW.PrintWords Go.Proofs.YtaokkkolbifdpaaGreatDoorW.PrintLast Go.Proofs.YtaokkkolbifdpaaGreatDoorW.PrintMore
set_option linter.unusedVariables false
set_option linter.unusedSimpArgs false
abbrev L3 : Type := List S23 × List S23 × List S23
def toP (p : List UInt8 × List UInt8) : S23 := ⟨lb p.1, lb p.2⟩
def putS (m : L3) (w : List UInt8) (p : List UInt8 × List UInt8) : L3 :=
  if w = wClass then (m.1 ++ [toP p], m.2.1, m.2.2) else if w = wField then (m.1, m.2.1 ++ [toP p], m.2.2) else if w = wMethod then (m.1, m.2.1, m.2.2 ++ [toP p]) else m
def readsF : List (List UInt8) → Nat → L3 → L3 × Int
  | [], _, m => (m, 0)
  | l :: ls, i, m => if (readS l).2.2 = true then readsF ls (i + 1) (putS m (readS l).1 (readS l).2.1) else (([], [], []), (i : Int) + 1)
def parseS (s : List UInt8) : L3 × (Int × Int) :=
  if (linesL s).2.1 ≠ 0 then (([], [], []), (linesL s).2) else
  if (readsF (linesL s).1 0 ([], [], [])).2 ≠ 0 then (([], [], []), (1, (readsF (linesL s).1 0 ([], [], [])).2)) else
  if (printS (readsF (linesL s).1 0 ([], [], [])).1.1 (readsF (linesL s).1 0 ([], [], [])).1.2.1 (readsF (linesL s).1 0 ([], [], [])).1.2.2).2 ≠ 0 ∨ (printS (readsF (linesL s).1 0 ([], [], [])).1.1 (readsF (linesL s).1 0 ([], [], [])).1.2.1 (readsF (linesL s).1 0 ([], [], [])).1.2.2).1 ≠ s then (([], [], []), (5, 0)) else ((readsF (linesL s).1 0 ([], [], [])).1, (0, 0))
theorem lineL_mem : ∀ (l : List (List UInt8)), ∀ x ∈ l, x.length ≤ (lineL l).length
  | [], x, h => by simp at h
  | [y], x, h => by simp at h; rw [h]; exact Nat.le_refl _
  | y :: z :: l, x, h => by
    show x.length ≤ (y ++ 32 :: lineL (z :: l)).length
    rcases List.mem_cons.1 h with h | h
    · rw [h, List.length_append]; omega
    · have := lineL_mem (z :: l) x h
      rw [List.length_append, List.length_cons]
      omega
theorem readS_len (line : List UInt8) (h : (readS line).2.2 = true) : (readS line).2.1.1.length ≤ line.length ∧ (readS line).2.1.2.length ≤ line.length ∧ ((readS line).1 = wClass ∨ (readS line).1 = wField ∨ (readS line).1 = wMethod) := by
  have hj := line_fields line
  unfold readS at h ⊢
  generalize hf : fieldsL line = l at h hj ⊢
  unfold readF at h ⊢
  split at h
  · rename_i a b c
    split at h
    · rename_i hw
      rw [if_pos hw]
      refine ⟨?_, ?_, hw.elim .inl (fun q => .inr (.inl q))⟩
      · rw [← hj]; exact lineL_mem _ b (by simp)
      · rw [← hj]; exact lineL_mem _ c (by simp)
    · cases h
  · rename_i a b c d
    split at h
    · rename_i hw
      rw [if_pos hw]
      refine ⟨?_, ?_, .inr (.inr hw.1)⟩
      · rw [← hj, lineL_len4, List.length_append]; omega
      · rw [← hj]; exact lineL_mem _ d (by simp)
    · cases h
  · cases h
def okM (m : L3) (n : Nat) : Prop := m.1.length + m.2.1.length + m.2.2.length ≤ n ∧ (∀ x ∈ m.1, okS x) ∧ (∀ x ∈ m.2.1, okS x) ∧ (∀ x ∈ m.2.2, okS x)
theorem okM_put {m : L3} {n : Nat} {line : List UInt8} (h : okM m n) (hr : (readS line).2.2 = true) (hl : line.length ≤ 1048576) : okM (putS m (readS line).1 (readS line).2.1) (n + 1) := by
  obtain ⟨h1, h2, h3⟩ := readS_len line hr
  have hx : okS (toP (readS line).2.1) := ⟨by show (lb _).size ≤ _; rw [lb_size]; omega, by show (lb _).size ≤ _; rw [lb_size]; omega⟩
  have hap : ∀ l : List S23, (∀ x ∈ l, okS x) → ∀ x ∈ l ++ [toP (readS line).2.1], okS x := fun l hl x hm => by
    rcases List.mem_append.1 hm with hm | hm
    · exact hl x hm
    · rw [List.mem_singleton.1 hm]; exact hx
  obtain ⟨q0, q1, q2, q3⟩ := h
  unfold putS
  split
  · exact ⟨by simp; omega, hap _ q1, q2, q3⟩
  · split
    · exact ⟨by simp; omega, q1, hap _ q2, q3⟩
    · split
      · exact ⟨by simp; omega, q1, q2, hap _ q3⟩
      · exact ⟨by omega, q1, q2, q3⟩
theorem txt_len : ∀ (ls : List (List UInt8)) (M : Nat), (∀ x ∈ ls, x.length ≤ M) → (textL ls).length ≤ ls.length * (M + 1)
  | [], M, _ => by simp [textL]
  | x :: ls, M, h => by
    have ih := txt_len ls M fun y hy => h y (List.mem_cons_of_mem _ hy)
    have hx := h x List.mem_cons_self
    unfold textL at ih ⊢
    have e : (x ++ [(10 : UInt8)]).length = x.length + 1 := by simp
    rw [List.flatMap_cons, List.length_append, e, List.length_cons, Nat.succ_mul]
    omega
theorem lineS_len (w : List UInt8) (x : List UInt8 × List UInt8) : (lineS w x).length ≤ x.1.length + x.1.length + x.2.length + 9 := by
  have h1 := keyN_len x.1
  have h2 := keyD_len x.1
  have l1 : wClass.length = 5 := rfl
  have l2 : wField.length = 5 := rfl
  have l3 : wMethod.length = 6 := rfl
  unfold lineS
  split
  · rename_i h
    rw [lineL_len3]
    rcases h with h | h <;> (rw [h]; omega)
  · split
    · rename_i h
      rw [lineL_len4, h]
      omega
    · simp
theorem all_len (l0 l1 l2 : List S23) (h0 : ∀ x ∈ l0, okS x) (h1 : ∀ x ∈ l1, okS x) (h2 : ∀ x ∈ l2, okS x) : ∀ y ∈ linesAll l0 l1 l2, y.length ≤ 4194304 := by
  have one : ∀ (w : List UInt8) (l : List S23), (∀ x ∈ l, okS x) → ∀ y ∈ l.map (fun x => lineS w (pairT x)), y.length ≤ 4194304 := fun w l h y hy => by
    obtain ⟨x, hx, rfl⟩ := List.mem_map.1 hy
    have := lineS_len w (pairT x)
    obtain ⟨q1, q2⟩ := h x hx
    have e1 : (pairT x).1.length = x.f0.size := bl_len _
    have e2 : (pairT x).2.length = x.f1.size := bl_len _
    omega
  intro y hy
  unfold linesAll at hy
  rcases List.mem_append.1 hy with hy | hy
  · rcases List.mem_append.1 hy with hy | hy
    · exact one _ _ h0 y hy
    · exact one _ _ h1 y hy
  · exact one _ _ h2 y hy
theorem linesAll_len (l0 l1 l2 : List S23) : (linesAll l0 l1 l2).length = l0.length + l1.length + l2.length := by simp [linesAll]; omega
theorem legend_print' (A0 : Option Addr) (c0 : Nat) (l0 : List S23) (A1 : Option Addr) (c1 : Nat) (l1 : List S23) (A2 : Option Addr) (c2 : Nat) (l2 : List S23) (w : World) (hC0 : Kd.C k23 w A0 l0.length l0) (hc0 : l0.length ≤ c0) (hC1 : Kd.C k23 w A1 l1.length l1) (hc1 : l1.length ≤ c1) (hC2 : Kd.C k23 w A2 l2.length l2) (hc2 : l2.length ≤ c2) (ok : okM (l0, l1, l2) 1048576) (hM : MaxL w) :
    Calls Tryz.prog 13 #[.agg #[.slice A0 l0.length c0, .slice A1 l1.length c1, .slice A2 l2.length c2]] w fun e w' => e = .returned (.tuple #[.string (lb (printS l0 l1 l2).1), .int .i64 (printS l0 l1 l2).2]) ∧ Below w.heap.size w w' := by
  obtain ⟨q0, q1, q2, q3⟩ := ok
  have q0 : l0.length + l1.length + l2.length ≤ 1048576 := q0
  have ht := txt_len (linesAll l0 l1 l2) 4194304 (all_len l0 l1 l2 q1 q2 q3)
  rw [linesAll_len] at ht
  have hmul : (l0.length + l1.length + l2.length) * (4194304 + 1) ≤ 1048576 * (4194304 + 1) := Nat.mul_le_mul_right _ q0
  exact legend_print A0 c0 l0 A1 c1 l1 A2 c2 l2 w hC0 hc0 hC1 hc1 hC2 hc2 ⟨by omega, q1⟩ ⟨by omega, q2⟩ ⟨by omega, q3⟩ hM (by rw [linesAll_len]; exact q0) (by omega)
theorem text_mem : ∀ (ls : List (List UInt8)), ls.length ≤ (textL ls).length ∧ ∀ x ∈ ls, x.length ≤ (textL ls).length
  | [] => ⟨Nat.zero_le _, by simp⟩
  | y :: ls => by
    obtain ⟨h1, h2⟩ := text_mem ls
    unfold textL at h1 h2 ⊢
    have e : (y ++ [(10 : UInt8)]).length = y.length + 1 := by simp
    rw [List.flatMap_cons, List.length_append, e, List.length_cons]
    refine ⟨by omega, fun x hx => ?_⟩
    rcases List.mem_cons.1 hx with h | h
    · rw [h]; omega
    · have := h2 x h; omega
theorem lines_bound {s : List UInt8} (h : (linesL s).2.1 = 0) : (linesL s).1.length ≤ 65536 ∧ ∀ x ∈ (linesL s).1, x.length ≤ 65536 := by
  unfold linesL at h ⊢
  split at h
  · cases h
  · rename_i hs
    rw [if_neg hs]
    obtain ⟨m, e, f, hl⟩ : ∃ m e f, lin [] [] s = (m, e, f) := ⟨_, _, _, rfl⟩
    rw [hl] at h ⊢
    have h0 : e = 0 := h
    subst h0
    have hb := (lin_back s [] [] m f hl).1
    simp [textL] at hb
    obtain ⟨h1, h2⟩ := text_mem m
    have ht : textL m = s := by rw [hb]; rfl
    rw [ht] at h1 h2
    exact ⟨by show m.length ≤ _; omega, fun x hx => by have := h2 x hx; omega⟩
end Go.Proofs.YtaokkkolbifdpaaGreatDoor.Hand
end

section
namespace Go.Proofs.YtaokkkolbifdpaaGreatDoor.Hand
open Go.RowKit Go.Proofs.YtaokkkolbifdpaaGreatDoorW.PrintWords Go.Proofs.YtaokkkolbifdpaaGreatDoorW.PrintLast Go.Proofs.YtaokkkolbifdpaaGreatDoorW.PrintMore
set_option linter.unusedVariables false
set_option linter.unusedSimpArgs false
def ParsedTo (w : World) (q : L3 × (Int × Int)) (e : Ending) (w' : World) : Prop := ∃ v0 v1 v2, e = .returned (.tuple #[.agg #[v0, v1, v2], .agg #[.int .i64 q.2.1, .int .i64 q.2.2]]) ∧ Kd.R k23 23 w' w.heap.size (fun _ => True) v0 q.1.1 ∧ Kd.R k23 23 w' w.heap.size (fun _ => True) v1 q.1.2.1 ∧ Kd.R k23 23 w' w.heap.size (fun _ => True) v2 q.1.2.2 ∧ Below w.heap.size w w'
theorem read_call (s : ByteArray) (hs : s.size ≤ 1048576) (W : World) (hM : MaxL W) : Calls Tryz.prog 7 #[.string s] W fun e w' => e = .returned (.tuple #[.string (lb (readS (bl s)).1), .agg #[.string (toP (readS (bl s)).2.1).f0, .string (toP (readS (bl s)).2.1).f1], .bool (readS (bl s)).2.2]) ∧ Below W.heap.size W w' :=
  Q32.legend_Read.calls 1 s _ _ _ _ W hM (legRead_eq s hs)
theorem put_call (base g : Nat) (v0 v1 v2 : Value) (m : L3) (what : List UInt8) (x : List UInt8 × List UInt8) (w : World) (hw : what = wClass ∨ what = wField ∨ what = wMethod) (hm : MOwn w base g v0 v1 v2 m.1 m.2.1 m.2.2) (hl : m.1.length + m.2.1.length + m.2.2.length ≤ 1048576) (hbz : base ≤ w.heap.size) :
    Calls Tryz.prog 32 #[.pointer (some ⟨g, 0, none⟩), .string (lb what), .agg #[.string (toP x).f0, .string (toP x).f1]] w fun e w' => ∃ u0 u1 u2, e = .returned (.tuple #[]) ∧ MOwn w' base g u0 u1 u2 (putS m what x).1 (putS m what x).2.1 (putS m what x).2.2 ∧ Below base w w' := by
  have n1 : wField ≠ wClass := by decide
  have n2 : wMethod ≠ wClass := by decide
  have n3 : wMethod ≠ wField := by decide
  rcases hw with rfl | rfl | rfl
  · refine (put_0 base g v0 v1 v2 m.1 m.2.1 m.2.2 (lb wClass) (toP x) w hm (by rw [toList_bl]; rfl) (by omega) hbz).mono ?_
    rintro e w' ⟨v', he, h, hb⟩
    unfold putS
    rw [if_pos rfl]
    exact ⟨v', v1, v2, he, h, hb⟩
  · refine (put_1 base g v0 v1 v2 m.1 m.2.1 m.2.2 (lb wField) (toP x) w hm (by rw [toList_bl]; rfl) (by omega) hbz).mono ?_
    rintro e w' ⟨v', he, h, hb⟩
    unfold putS
    rw [if_neg n1, if_pos rfl]
    exact ⟨v0, v', v2, he, h, hb⟩
  · refine (put_2 base g v0 v1 v2 m.1 m.2.1 m.2.2 (lb wMethod) (toP x) w hm (by rw [toList_bl]; rfl) (by omega) hbz).mono ?_
    rintro e w' ⟨v', he, h, hb⟩
    unfold putS
    rw [if_neg n2, if_neg n3, if_pos rfl]
    exact ⟨v0, v1, v', he, h, hb⟩
theorem set2_own {w : World} {R : Nat} {t : TypeId} {u0 u1 : Value} (h : w.heap[R]? = some (Obj.cells #[u0, u1] t (0, 0))) (v0 v1 : Value) : ((w.setCell ⟨R, 0, none⟩ v0).setCell ⟨R, 1, none⟩ v1).heap[R]? = some (Obj.cells #[v0, v1] t (0, 0)) := blk_put (cs' := #[v0, v1]) (blk_put (cs' := #[v0, u1]) h 0 v0 rfl) 1 v1 rfl
theorem set3_own {w : World} {R : Nat} {t : TypeId} {u0 u1 u2 : Value} (h : w.heap[R]? = some (Obj.cells #[u0, u1, u2] t (0, 0))) (v0 v1 v2 : Value) : (((w.setCell ⟨R, 0, none⟩ v0).setCell ⟨R, 1, none⟩ v1).setCell ⟨R, 2, none⟩ v2).heap[R]? = some (Obj.cells #[v0, v1, v2] t (0, 0)) := blk_put (cs' := #[v0, v1, v2]) (blk_put (cs' := #[v0, v1, u2]) (blk_put (cs' := #[v0, u1, u2]) h 0 v0 rfl) 1 v1 rfl) 2 v2 rfl
theorem set2_far {w : World} {R k : Nat} (h : k ≠ R) (v0 v1 : Value) : ((w.setCell ⟨R, 0, none⟩ v0).setCell ⟨R, 1, none⟩ v1).heap[k]? = w.heap[k]? := by rw [Below.heap_setCell _ _ _ _ h, Below.heap_setCell _ _ _ _ h]
theorem set3_far {w : World} {R k : Nat} (h : k ≠ R) (v0 v1 v2 : Value) : (((w.setCell ⟨R, 0, none⟩ v0).setCell ⟨R, 1, none⟩ v1).setCell ⟨R, 2, none⟩ v2).heap[k]? = w.heap[k]? := by rw [Below.heap_setCell _ _ _ _ h, Below.heap_setCell _ _ _ _ h, Below.heap_setCell _ _ _ _ h]
set_option maxHeartbeats 32000000 in
set_option maxRecDepth 20000 in
theorem legend_parse (s : ByteArray) (hs : s.size ≤ 1048576) (w : World) (hM : MaxL w) : Calls Tryz.prog 15 #[.string s] w (ParsedTo w (parseS (bl s))) := by
  have HLn := Aside0.mk (word_Lines.calls s ((linesL (bl s)).1.map lb) (linesL (bl s)).2.1 (linesL (bl s)).2.2 ((w.alloc (Obj.cells #[.slice none 0 0, .slice none 0 0, .slice none 0 0] 34)).alloc (Obj.cells #[.int .i64 0, .int .i64 0] 40)) (hM.below (below_alloc (below_alloc (Below.refl _ _) _) _)) (by unfold word_Lines.f; rw [if_pos (by omega)]))
  have hM0 : MaxL ((w.alloc (Obj.cells #[.slice none 0 0, .slice none 0 0, .slice none 0 0] 34)).alloc (Obj.cells #[.int .i64 0, .int .i64 0] 40)) := hM.below (below_alloc (below_alloc (Below.refl _ _) _) _)
  have HB0 := Aside0.mk (below_alloc (below_alloc (Below.refl w.heap.size w) (Obj.cells #[.slice none 0 0, .slice none 0 0, .slice none 0 0] 34)) (Obj.cells #[.int .i64 0, .int .i64 0] 40))
  have hz2 := blk_alloc (World.alloc_heap_new w (Obj.cells #[.slice none 0 0, .slice none 0 0, .slice none 0 0] 34)) (Obj.cells #[.int .i64 0, .int .i64 0] 40)
  have hz3 := World.alloc_heap_new (w.alloc (Obj.cells #[.slice none 0 0, .slice none 0 0, .slice none 0 0] 34)) (Obj.cells #[.int .i64 0, .int .i64 0] 40)
  rw [World.size_alloc] at hz3
  obtain ⟨ls, er, at_, hls⟩ : ∃ ls er at_, linesL (bl s) = (ls, er, at_) := ⟨_, _, _, rfl⟩
  have hbound : er = 0 → ls.length ≤ 65536 ∧ ∀ x ∈ ls, x.length ≤ 65536 := fun h => by
    have := lines_bound (s := bl s) (by rw [hls]; exact h)
    rw [hls] at this
    exact this
  have hq : parseS (bl s) = (if er ≠ 0 then (([], [], []), (er, at_)) else if (readsF ls 0 ([], [], [])).2 ≠ 0 then (([], [], []), (1, (readsF ls 0 ([], [], [])).2)) else
      if (printS (readsF ls 0 ([], [], [])).1.1 (readsF ls 0 ([], [], [])).1.2.1 (readsF ls 0 ([], [], [])).1.2.2).2 ≠ 0 ∨ (printS (readsF ls 0 ([], [], [])).1.1 (readsF ls 0 ([], [], [])).1.2.1 (readsF ls 0 ([], [], [])).1.2.2).1 ≠ bl s then (([], [], []), (5, 0)) else ((readsF ls 0 ([], [], [])).1, (0, 0))) := by
    unfold parseS
    rw [hls]
  rw [hls] at HLn
  have HZ2 := Aside0.mk hz2
  have HZ3 := Aside0.mk hz3
  have HM0 := Aside0.mk hM0
  by_cases her : er = 0
  · obtain ⟨hb1, hb2⟩ := hbound her
    subst her
    rw [if_neg (fun h => h rfl)] at hq
    obtain ⟨R, hR⟩ : ∃ R, R = readsF ls 0 ([], [], []) := ⟨_, rfl⟩
    rw [← hR] at hq
    have HR := Aside0.mk hR
    have HQ := Aside0.mk hq
    have HBd := Aside0.mk (And.intro hb1 hb2)
    have hlen : (ls.map lb).length = ls.length := List.length_map _
    clear hq hbound hb1 hb2 hz2 hz3 hM0 hM hls hR
    have e0 : ((0 : Int) != 0) = false := rfl
    obtain ⟨q, hqq⟩ : ∃ q, q = parseS (bl s) := ⟨_, rfl⟩
    rw [← hqq] at HQ ⊢
    clear hqq
    go_enter Tryz.func15, Tryz.ntmps15
    go_wp2_with fail
    refine HLn.out.mono ?_
    rintro e w1 ⟨vL, rfl, hRL, hb⟩
    obtain ⟨AL, cL, rfl, hcL, hCL⟩ := Kd.R_reads hRL
    rw [hlen] at hcL
    have HCL := Aside0.mk hCL
    have HZ21 := Aside0.mk (blk_below HZ2.out hb)
    have HZ31 := Aside0.mk (blk_below HZ3.out hb)
    have HB1 := Aside0.mk (below_step HB0.out hb)
    have HM1 := Aside0.mk (HM0.out.below hb)
    clear hb hRL hCL
    go_wp2_with fail
    have HW5 := Aside0.mk (below_alloc (below_alloc (Below.refl w1.heap.size w1) (Obj.cells #[.int .i64 0, .int .i64 at_] 40)) (Obj.cells #[.slice none 0 0, .slice none 0 0, .slice none 0 0] 34))
    have hown := World.alloc_heap_new (w1.alloc (Obj.cells #[.int .i64 0, .int .i64 at_] 40)) (Obj.cells #[.slice none 0 0, .slice none 0 0, .slice none 0 0] 34)
    rw [World.size_alloc] at hown
    have hsz : w1.heap.size + 1 ≤ ((w1.alloc (Obj.cells #[.int .i64 0, .int .i64 at_] 40)).alloc (Obj.cells #[.slice none 0 0, .slice none 0 0, .slice none 0 0] 34)).heap.size := by rw [World.size_alloc, World.size_alloc]; omega
    obtain ⟨w5, hw5⟩ : ∃ W, (w1.alloc (Obj.cells #[.int .i64 0, .int .i64 at_] 40)).alloc (Obj.cells #[.slice none 0 0, .slice none 0 0, .slice none 0 0] 34) = W := ⟨_, rfl⟩
    rw [hw5] at HW5 hown hsz ⊢
    have nob : ∀ (a : Value), ∀ q, (Value.slice none 0 0).ownBlock = some q → some q ≠ a.ownBlock := fun a q h => by simp [Value.ownBlock] at h
    have HMO := Aside0.mk (MOwn.mk (base := w1.heap.size + 1) (l0 := ([] : List S23)) (l1 := ([] : List S23)) (l2 := ([] : List S23)) hown (Nat.le_refl _) (Kd.R_nil _ _ _ _ _) (Kd.R_nil _ _ _ _ _) (Kd.R_nil _ _ _ _ _) (nob _) (nob _) (nob _) (nob _) (nob _) (nob _))
    have HSZ := Aside0.mk hsz
    clear hw5 hown hsz nob
    go_loopg [26] ls.length (fun kq v26 wr => ∃ (i : Nat) (v0 v1 v2 : Value) (m : L3), v26 = .int .i64 (i : Int) ∧ i + kq = ls.length ∧ Aside0 (MOwn wr (w1.heap.size + 1) (w1.heap.size + 1) v0 v1 v2 m.1 m.2.1 m.2.2) ∧ Aside0 (readsF (ls.drop i) i m = R) ∧ Aside0 (okM m i) ∧ Aside0 (Below w1.heap.size w1 wr) ∧ Aside0 (w1.heap.size + 1 ≤ wr.heap.size))
    case atStart => exact ⟨0, _, _, _, ([], [], []), rfl, by omega, HMO, ⟨HR.out.symm⟩, ⟨by simp [okM]⟩, HW5, HSZ⟩
    case round =>
      obtain ⟨i, v0, v1, v2, m, rfl, hi, HO, HRe, HOk, HBw, HSw⟩ := hrel
      clear HMO HSZ HW5
      have hb65 := HBd.out.1
      have HZ2r := Aside0.mk (blk_below HZ21.out HBw.out)
      have HZ3r := Aside0.mk (blk_below HZ31.out HBw.out)
      have HMr := Aside0.mk (HM1.out.below HBw.out)
      have HBr := Aside0.mk (below_step HB1.out HBw.out)
      by_cases hlt : i < ls.length
      · obtain ⟨ad, hA, h0⟩ := Kd.at_string (Kd.C_below HCL.out HBw.out) (i : Int) (by omega) (by rw [hlen]; omega)
        subst hA
        rw [Int.toNat_natCast, rd_map ls i hlt] at h0
        have hdrop : ls.drop i = ls[i] :: ls.drop (i + 1) := List.drop_eq_getElem_cons hlt
        have hx65 := HBd.out.2 ls[i] (List.getElem_mem hlt)
        obtain ⟨x, hx⟩ : ∃ x, x = ls[i] := ⟨_, rfl⟩
        rw [← hx] at h0 hdrop hx65
        have hre := HRe.out
        rw [hdrop, readsF] at hre
        have hd : decide ((i : Int) < (ls.length : Int)) = true := decide_eq_true (by omega)
        have HRd := Aside0.mk (read_call (lb x) (by rw [lb_size]; omega) wr HMr.out)
        rw [bl_lb] at HRd
        have HPut := Aside0.mk (fun (hr : (readS x).2.2 = true) W hW hz => put_call (w1.heap.size + 1) (w1.heap.size + 1) v0 v1 v2 m (readS x).1 (readS x).2.1 W (readS_len x hr).2.2 hW (by have := HOk.out.1; omega) hz)
        have HOk2 := Aside0.mk (fun (hr : (readS x).2.2 = true) => okM_put HOk.out hr (by omega))
        clear hx hdrop
        cases hok : (readS x).2.2 with
        | true =>
          rw [hok, if_pos rfl] at hre
          rw [hok] at HRd
          have HRe2 := Aside0.mk hre
          have HOk3 := Aside0.mk (HOk2.out hok)
          have HPut2 := Aside0.mk (HPut.out hok)
          clear hok hre HPut HOk2
          go_wp2_with fail
          refine HRd.out.mono ?_
          rintro e w2 ⟨rfl, hb⟩
          have hb2 := below_alloc hb (Obj.cells #[.string (toP (readS x).2.1).f0, .string (toP (readS x).2.1).f1] 23)
          have HO2 := Aside0.mk (HO.out.below hb2 HSw.out)
          have HBw2 := Aside0.mk (below_step HBw.out hb2)
          have HSw2 := Aside0.mk (Nat.le_trans HSw.out hb2.size)
          clear hb hb2 h0
          go_wp2_with fail
          refine (HPut2.out _ HO2.out HSw2.out).mono ?_
          rintro e w3 ⟨u0, u1, u2, rfl, hmo, hb3⟩
          have HO3 := Aside0.mk hmo
          have HBw3 := Aside0.mk (HBw2.out.trans (hb3.mono (Nat.le_succ _)))
          have HSw3 := Aside0.mk (Nat.le_trans HSw2.out hb3.size)
          clear hmo hb3
          go_wp2_with fail
          go_roundg (gk - 1)
          case measure => omega
          case rel => exact ⟨i + 1, u0, u1, u2, putS m (readS x).1 (readS x).2.1, by simp, by omega, HO3, HRe2, HOk3, HBw3, HSw3⟩
        | false =>
          rw [hok, if_neg (by decide)] at hre
          rw [hok] at HRd
          have HQ2 : Aside0 (q = (([], [], []), (1, (i : Int) + 1))) := ⟨by
            have h1 := HQ.out
            rw [← hre] at h1
            rw [h1, if_pos (by show ¬ ((i : Int) + 1 = 0); omega)]⟩
          have q1 : (0 : Int) ≤ (i : Int) := by omega
          have q2 : (i : Int) ≤ 65536 := by omega
          clear hok hre HPut HOk2
          go_wp2_with fail
          refine HRd.out.mono ?_
          rintro e w2 ⟨rfl, hb⟩
          have HB2 := Aside0.mk (below_step HBr.out hb)
          have HZ2s := Aside0.mk (blk_below HZ2r.out hb)
          have HZ3s := Aside0.mk (blk_below HZ3r.out hb)
          clear h0
          obtain ⟨a0, a1, a2⟩ : w2.cell? ⟨w.heap.size, 0, none⟩ = some (.slice none 0 0) ∧ w2.cell? ⟨w.heap.size, 1, none⟩ = some (.slice none 0 0) ∧ w2.cell? ⟨w.heap.size, 2, none⟩ = some (.slice none 0 0) := ⟨blk_cell (blk_below HZ2r.out hb) 0, blk_cell (blk_below HZ2r.out hb) 1, blk_cell (blk_below HZ2r.out hb) 2⟩
          obtain ⟨c0, c1⟩ : w2.cell? ⟨w.heap.size + 1, 0, none⟩ = some (.int .i64 0) ∧ w2.cell? ⟨w.heap.size + 1, 1, none⟩ = some (.int .i64 0) := ⟨blk_cell (blk_below HZ3r.out hb) 0, blk_cell (blk_below HZ3r.out hb) 1⟩
          have f2 := blk_frozen (blk_below HZ2r.out hb)
          have f3 := blk_frozen (blk_below HZ3r.out hb)
          have g2 := blk_lt (blk_below HZ2r.out hb)
          have g3 := blk_lt (blk_below HZ3r.out hb)
          clear hb
          go_wp2_with fail
          rw [HQ2.out]
          exact bodyPost_ret (results_cc rfl _ _ w.heap.size (w.heap.size + 1) 34 40 #[.slice none 0 0, .slice none 0 0, .slice none 0 0] #[.int .i64 1, .int .i64 ((i : Int) + 1)] (0, 0) (0, 0) _ _ rfl (blk_alloc ((set2_far (by omega) _ _).trans (set3_own HZ2s.out _ _ _)) _) Tryz.underlying34 rfl (by kernel_rfl) rfl (blk_alloc (set2_own ((set3_far (by omega) _ _ _).trans HZ3s.out) _ _) _) Tryz.underlying40 rfl (by kernel_rfl)) rfl ⟨_, _, _, rfl, Kd.R_nil _ _ _ _ _, Kd.R_nil _ _ _ _ _, Kd.R_nil _ _ _ _ _, below_alloc (below_set (below_set (below_set (below_set (below_set HB2.out (Nat.le_refl _)) (Nat.le_refl _)) (Nat.le_refl _)) (by omega)) (by omega)) _⟩
      · have hil : i = ls.length := by omega
        obtain ⟨l0, l1, l2⟩ := m
        have hre : R = ((l0, l1, l2), 0) := by
          have h := HRe.out
          rw [List.drop_of_length_le (by omega)] at h
          exact h.symm
        have hqq : q = (if (printS l0 l1 l2).2 ≠ 0 ∨ (printS l0 l1 l2).1 ≠ bl s then (([], [], []), (5, 0)) else ((l0, l1, l2), (0, 0))) := by
          have h := HQ.out
          rw [hre, if_neg (fun h => h rfl)] at h
          exact h
        obtain ⟨A0, c0, rfl, hc0, hC0⟩ := Kd.R_reads HO.out.r0
        obtain ⟨A1, c1, rfl, hc1, hC1⟩ := Kd.R_reads HO.out.r1
        obtain ⟨A2, c2, rfl, hc2, hC2⟩ := Kd.R_reads HO.out.r2
        have HPr := Aside0.mk (legend_print' A0 c0 l0 A1 c1 l1 A2 c2 l2 wr hC0 hc0 hC1 hc1 hC2 hc2 ⟨by have := HOk.out.1; omega, HOk.out.2⟩ HMr.out)
        obtain ⟨t, pe, hp⟩ : ∃ t pe, printS l0 l1 l2 = (t, pe) := ⟨_, _, rfl⟩
        rw [hp] at HPr hqq
        replace hqq : q = (if pe ≠ 0 ∨ t ≠ bl s then (([], [], []), (5, 0)) else ((l0, l1, l2), (0, 0))) := hqq
        have HQQ := Aside0.mk hqq
        have hd : decide ((i : Int) < (ls.length : Int)) = false := decide_eq_false (by omega)
        obtain ⟨m0, m1, m2⟩ : wr.cell? ⟨w1.heap.size + 1, 0, none⟩ = some (.slice A0 l0.length c0) ∧ wr.cell? ⟨w1.heap.size + 1, 1, none⟩ = some (.slice A1 l1.length c1) ∧ wr.cell? ⟨w1.heap.size + 1, 2, none⟩ = some (.slice A2 l2.length c2) := ⟨blk_cell HO.out.b 0, blk_cell HO.out.b 1, blk_cell HO.out.b 2⟩
        have hwl : w.heap.size + 1 < w1.heap.size := blk_lt HZ31.out
        clear hre hqq hp hC0 hC1 hC2 hil
        go_wp2_with fail
        refine HPr.out.mono ?_
        rintro e w6 ⟨rfl, hb⟩
        have HO6 := Aside0.mk (HO.out.below hb HSw.out)
        have HZ6 := Aside0.mk (blk_below HZ2r.out hb)
        have HZ63 := Aside0.mk (blk_below HZ3r.out hb)
        have HB6 := Aside0.mk (below_step HBr.out hb)
        obtain ⟨a0, a1, a2⟩ : w6.cell? ⟨w.heap.size, 0, none⟩ = some (.slice none 0 0) ∧ w6.cell? ⟨w.heap.size, 1, none⟩ = some (.slice none 0 0) ∧ w6.cell? ⟨w.heap.size, 2, none⟩ = some (.slice none 0 0) := ⟨blk_cell HZ6.out 0, blk_cell HZ6.out 1, blk_cell HZ6.out 2⟩
        obtain ⟨d0, d1⟩ : w6.cell? ⟨w.heap.size + 1, 0, none⟩ = some (.int .i64 0) ∧ w6.cell? ⟨w.heap.size + 1, 1, none⟩ = some (.int .i64 0) := ⟨blk_cell HZ63.out 0, blk_cell HZ63.out 1⟩
        have f2 := blk_frozen HZ6.out
        have f3 := blk_frozen HZ63.out
        have g2 := blk_lt HZ6.out
        have g3 := blk_lt HZ63.out
        clear hb m0 m1 m2
        by_cases hpe : pe = 0
        · subst hpe
          have p1 : ((0 : Int) != 0) = false := rfl
          by_cases hts : t = bl s
          · have HQ2 : Aside0 (q = ((l0, l1, l2), (0, 0))) := ⟨by rw [HQQ.out, if_neg (fun h => h.elim (fun h => h rfl) (fun h => h hts))]⟩
            have hlt' : lb t = s := by rw [hts, lb_bl]
            have t1 : ((lb t).toList == s.toList) = true := by rw [hlt']; exact beq_self_eq_true _
            obtain ⟨m0, m1, m2⟩ : w6.cell? ⟨w1.heap.size + 1, 0, none⟩ = some (.slice A0 l0.length c0) ∧ w6.cell? ⟨w1.heap.size + 1, 1, none⟩ = some (.slice A1 l1.length c1) ∧ w6.cell? ⟨w1.heap.size + 1, 2, none⟩ = some (.slice A2 l2.length c2) := ⟨blk_cell HO6.out.b 0, blk_cell HO6.out.b 1, blk_cell HO6.out.b 2⟩
            clear hts hlt'
            go_wp2_with fail
            rw [HQ2.out]
            have hmv : ∀ (v : Value) (l : List S23), Kd.R k23 23 w6 (w1.heap.size + 1) (fun _ => True) v l → Kd.R k23 23 ((((((w6.setCell ⟨w.heap.size, 0, none⟩ (.slice A0 l0.length c0)).setCell ⟨w.heap.size, 1, none⟩ (.slice A1 l1.length c1)).setCell ⟨w.heap.size, 2, none⟩ (.slice A2 l2.length c2)).setCell ⟨w.heap.size + 1, 0, none⟩ (.int .i64 0)).setCell ⟨w.heap.size + 1, 1, none⟩ (.int .i64 0))) w.heap.size (fun _ => True) v l := fun v l h =>
              Kd.R_lower (Kd.R_mono (Kd.R_move (Kd.R_bound h) (fun k hk => (set2_far (by have := hk.2.1; omega) _ _).trans (set3_far (by have := hk.2.1; omega) _ _ _))) (fun _ _ => trivial)) (by omega)
            have hb2 : ((((((w6.setCell ⟨w.heap.size, 0, none⟩ (.slice A0 l0.length c0)).setCell ⟨w.heap.size, 1, none⟩ (.slice A1 l1.length c1)).setCell ⟨w.heap.size, 2, none⟩ (.slice A2 l2.length c2)).setCell ⟨w.heap.size + 1, 0, none⟩ (.int .i64 0)).setCell ⟨w.heap.size + 1, 1, none⟩ (.int .i64 0))).heap[w.heap.size]? = some (Obj.cells #[.slice A0 l0.length c0, .slice A1 l1.length c1, .slice A2 l2.length c2] 34 (0, 0)) := (set2_far (by omega) _ _).trans (set3_own HZ6.out _ _ _)
            have hb3 : ((((((w6.setCell ⟨w.heap.size, 0, none⟩ (.slice A0 l0.length c0)).setCell ⟨w.heap.size, 1, none⟩ (.slice A1 l1.length c1)).setCell ⟨w.heap.size, 2, none⟩ (.slice A2 l2.length c2)).setCell ⟨w.heap.size + 1, 0, none⟩ (.int .i64 0)).setCell ⟨w.heap.size + 1, 1, none⟩ (.int .i64 0))).heap[w.heap.size + 1]? = some (Obj.cells #[.int .i64 0, .int .i64 0] 40 (0, 0)) := set2_own ((set3_far (by omega) _ _ _).trans HZ63.out) _ _
            have hbw : Below w.heap.size w ((((((w6.setCell ⟨w.heap.size, 0, none⟩ (.slice A0 l0.length c0)).setCell ⟨w.heap.size, 1, none⟩ (.slice A1 l1.length c1)).setCell ⟨w.heap.size, 2, none⟩ (.slice A2 l2.length c2)).setCell ⟨w.heap.size + 1, 0, none⟩ (.int .i64 0)).setCell ⟨w.heap.size + 1, 1, none⟩ (.int .i64 0))) := below_set (below_set (below_set (below_set (below_set HB6.out (Nat.le_refl _)) (Nat.le_refl _)) (Nat.le_refl _)) (by omega)) (by omega)
            have k0 := hmv _ _ HO6.out.r0
            have k1 := hmv _ _ HO6.out.r1
            have k2 := hmv _ _ HO6.out.r2
            clear hmv
            obtain ⟨wf, hwf⟩ : ∃ W, W = ((((((w6.setCell ⟨w.heap.size, 0, none⟩ (.slice A0 l0.length c0)).setCell ⟨w.heap.size, 1, none⟩ (.slice A1 l1.length c1)).setCell ⟨w.heap.size, 2, none⟩ (.slice A2 l2.length c2)).setCell ⟨w.heap.size + 1, 0, none⟩ (.int .i64 0)).setCell ⟨w.heap.size + 1, 1, none⟩ (.int .i64 0))) := ⟨_, rfl⟩
            rw [← hwf] at hb2 hb3 hbw k0 k1 k2 ⊢
            clear hwf
            exact bodyPost_ret (results_cc rfl _ _ w.heap.size (w.heap.size + 1) 34 40 #[.slice A0 l0.length c0, .slice A1 l1.length c1, .slice A2 l2.length c2] #[.int .i64 0, .int .i64 0] (0, 0) (0, 0) _ _ rfl hb2 Tryz.underlying34 rfl (by kernel_rfl) rfl hb3 Tryz.underlying40 rfl (by kernel_rfl)) rfl ⟨_, _, _, rfl, k0, k1, k2, hbw⟩
          · have HQ2 : Aside0 (q = (([], [], []), (5, 0))) := ⟨by rw [HQQ.out, if_pos (.inr hts)]⟩
            have t1 : ((lb t).toList == s.toList) = false := beq_eq_false_iff_ne.2 (by rw [toList_bl, toList_bl, bl_lb]; exact hts)
            clear hts
            go_wp2_with fail
            rw [HQ2.out]
            exact bodyPost_ret (results_cc rfl _ _ w.heap.size (w.heap.size + 1) 34 40 #[.slice none 0 0, .slice none 0 0, .slice none 0 0] #[.int .i64 5, .int .i64 0] (0, 0) (0, 0) _ _ rfl ((set2_far (by omega) _ _).trans (set3_own HZ6.out _ _ _)) Tryz.underlying34 rfl (by kernel_rfl) rfl (set2_own ((set3_far (by omega) _ _ _).trans HZ63.out) _ _) Tryz.underlying40 rfl (by kernel_rfl)) rfl ⟨_, _, _, rfl, Kd.R_nil _ _ _ _ _, Kd.R_nil _ _ _ _ _, Kd.R_nil _ _ _ _ _, below_set (below_set (below_set (below_set (below_set HB6.out (Nat.le_refl _)) (Nat.le_refl _)) (Nat.le_refl _)) (by omega)) (by omega)⟩
        · have HQ2 : Aside0 (q = (([], [], []), (5, 0))) := ⟨by rw [HQQ.out, if_pos (.inl hpe)]⟩
          have p1 : (pe != 0) = true := bne_iff_ne.2 hpe
          clear hpe
          go_wp2_with fail
          rw [HQ2.out]
          exact bodyPost_ret (results_cc rfl _ _ w.heap.size (w.heap.size + 1) 34 40 #[.slice none 0 0, .slice none 0 0, .slice none 0 0] #[.int .i64 5, .int .i64 0] (0, 0) (0, 0) _ _ rfl ((set2_far (by omega) _ _).trans (set3_own HZ6.out _ _ _)) Tryz.underlying34 rfl (by kernel_rfl) rfl (set2_own ((set3_far (by omega) _ _ _).trans HZ63.out) _ _) Tryz.underlying40 rfl (by kernel_rfl)) rfl ⟨_, _, _, rfl, Kd.R_nil _ _ _ _ _, Kd.R_nil _ _ _ _ _, Kd.R_nil _ _ _ _ _, below_set (below_set (below_set (below_set (below_set HB6.out (Nat.le_refl _)) (Nat.le_refl _)) (Nat.le_refl _)) (by omega)) (by omega)⟩
  · have hqq : parseS (bl s) = (([], [], []), (er, at_)) := by rw [hq, if_pos her]
    have HQ2 := Aside0.mk hqq
    have e0 : (er != 0) = true := bne_iff_ne.2 her
    have hlen : (ls.map lb).length = ls.length := List.length_map _
    clear hq hqq hbound hz2 hz3 hM0 hM hls her
    obtain ⟨q, hqq⟩ : ∃ q, q = parseS (bl s) := ⟨_, rfl⟩
    rw [← hqq] at HQ2 ⊢
    clear hqq
    go_enter Tryz.func15, Tryz.ntmps15
    go_wp2_with fail
    refine HLn.out.mono ?_
    rintro e w1 ⟨vL, rfl, hRL, hb⟩
    obtain ⟨AL, cL, rfl, hcL, hCL⟩ := Kd.R_reads hRL
    have HZ6 := Aside0.mk (blk_below HZ2.out hb)
    have HZ63 := Aside0.mk (blk_below HZ3.out hb)
    have HB6 := Aside0.mk (below_step HB0.out hb)
    obtain ⟨a0, a1, a2⟩ : w1.cell? ⟨w.heap.size, 0, none⟩ = some (.slice none 0 0) ∧ w1.cell? ⟨w.heap.size, 1, none⟩ = some (.slice none 0 0) ∧ w1.cell? ⟨w.heap.size, 2, none⟩ = some (.slice none 0 0) := ⟨blk_cell HZ6.out 0, blk_cell HZ6.out 1, blk_cell HZ6.out 2⟩
    obtain ⟨d0, d1⟩ : w1.cell? ⟨w.heap.size + 1, 0, none⟩ = some (.int .i64 0) ∧ w1.cell? ⟨w.heap.size + 1, 1, none⟩ = some (.int .i64 0) := ⟨blk_cell HZ63.out 0, blk_cell HZ63.out 1⟩
    have f2 := blk_frozen HZ6.out
    have f3 := blk_frozen HZ63.out
    have g2 := blk_lt HZ6.out
    have g3 := blk_lt HZ63.out
    clear hb hRL hCL hcL
    go_wp2_with fail
    have HY := Aside0.mk (World.alloc_heap_new w1 (Obj.cells #[.int .i64 er, .int .i64 at_] 40))
    obtain ⟨y0, y1⟩ : (w1.alloc (Obj.cells #[.int .i64 er, .int .i64 at_] 40)).cell? ⟨w1.heap.size, 0, none⟩ = some (.int .i64 er) ∧ (w1.alloc (Obj.cells #[.int .i64 er, .int .i64 at_] 40)).cell? ⟨w1.heap.size, 1, none⟩ = some (.int .i64 at_) := ⟨blk_cell HY.out 0, blk_cell HY.out 1⟩
    go_region_with (fail)
    all_goals go_wp2_with fail
    all_goals (
      rw [HQ2.out]
      have hb2 : (((((w1.setCell ⟨w.heap.size, 0, none⟩ (.slice none 0 0)).setCell ⟨w.heap.size, 1, none⟩ (.slice none 0 0)).setCell ⟨w.heap.size, 2, none⟩ (.slice none 0 0)).setCell ⟨w.heap.size + 1, 0, none⟩ (.int .i64 er)).setCell ⟨w.heap.size + 1, 1, none⟩ (.int .i64 at_)).heap[w.heap.size]? = some (Obj.cells #[.slice none 0 0, .slice none 0 0, .slice none 0 0] 34 (0, 0)) := (set2_far (by omega) _ _).trans (set3_own HZ6.out _ _ _)
      have hb3 : (((((w1.setCell ⟨w.heap.size, 0, none⟩ (.slice none 0 0)).setCell ⟨w.heap.size, 1, none⟩ (.slice none 0 0)).setCell ⟨w.heap.size, 2, none⟩ (.slice none 0 0)).setCell ⟨w.heap.size + 1, 0, none⟩ (.int .i64 er)).setCell ⟨w.heap.size + 1, 1, none⟩ (.int .i64 at_)).heap[w.heap.size + 1]? = some (Obj.cells #[.int .i64 er, .int .i64 at_] 40 (0, 0)) := set2_own ((set3_far (by omega) _ _ _).trans HZ63.out) _ _
      have hbw : Below w.heap.size w (((((w1.setCell ⟨w.heap.size, 0, none⟩ (.slice none 0 0)).setCell ⟨w.heap.size, 1, none⟩ (.slice none 0 0)).setCell ⟨w.heap.size, 2, none⟩ (.slice none 0 0)).setCell ⟨w.heap.size + 1, 0, none⟩ (.int .i64 er)).setCell ⟨w.heap.size + 1, 1, none⟩ (.int .i64 at_)) := below_set (below_set (below_set (below_set (below_set HB6.out (Nat.le_refl _)) (Nat.le_refl _)) (Nat.le_refl _)) (by omega)) (by omega)
      obtain ⟨wf, hwf⟩ : ∃ W, W = (((((w1.setCell ⟨w.heap.size, 0, none⟩ (.slice none 0 0)).setCell ⟨w.heap.size, 1, none⟩ (.slice none 0 0)).setCell ⟨w.heap.size, 2, none⟩ (.slice none 0 0)).setCell ⟨w.heap.size + 1, 0, none⟩ (.int .i64 er)).setCell ⟨w.heap.size + 1, 1, none⟩ (.int .i64 at_)) := ⟨_, rfl⟩
      rw [← hwf] at hb2 hb3 hbw ⊢
      clear hwf
      have hc2 : ((wf.alloc (Obj.cells #[.int .i64 er, .int .i64 at_] 40)).drew).heap[w.heap.size]? = some (Obj.cells #[.slice none 0 0, .slice none 0 0, .slice none 0 0] 34 (0, 0)) := blk_alloc hb2 _
      have hc3 : ((wf.alloc (Obj.cells #[.int .i64 er, .int .i64 at_] 40)).drew).heap[w.heap.size + 1]? = some (Obj.cells #[.int .i64 er, .int .i64 at_] 40 (0, 0)) := blk_alloc hb3 _
      exact bodyPost_ret (results_cc rfl _ _ w.heap.size (w.heap.size + 1) 34 40 #[.slice none 0 0, .slice none 0 0, .slice none 0 0] #[.int .i64 er, .int .i64 at_] (0, 0) (0, 0) _ _ rfl hc2 Tryz.underlying34 rfl (by kernel_rfl) rfl hc3 Tryz.underlying40 rfl (by kernel_rfl)) rfl ⟨_, _, _, rfl, Kd.R_nil _ _ _ _ _, Kd.R_nil _ _ _ _ _, Kd.R_nil _ _ _ _ _, below_drew1 (below_alloc hbw _)⟩)
end Go.Proofs.YtaokkkolbifdpaaGreatDoor.Hand
end

section
namespace Go.Proofs.YtaokkkolbifdpaaGreatDoor.Q33
open Go.RowKit Go.Proofs.YtaokkkolbifdpaaGreatDoorW.PrintWords Go.Proofs.YtaokkkolbifdpaaGreatDoorW.PrintLast Go.Proofs.YtaokkkolbifdpaaGreatDoorW.PrintMore Go.Proofs.YtaokkkolbifdpaaGreatDoor.Hand
attribute [local go_sem] max2_int min2_int max_two min_two max_three min_three max_four min_four   -- for this text's walks alone
set_option linter.unusedVariables false
set_option linter.unusedSimpArgs false
def errW : Option Int → Value
  | none => .nilIface
  | some c => .iface 0 (.int .i64 c)
theorem errW_none : errW none = .nilIface := rfl
theorem errW_some (c : Int) : errW (some c) = .iface 0 (.int .i64 c) := rfl
end Go.Proofs.YtaokkkolbifdpaaGreatDoor.Q33
end

section
namespace Go.Proofs.YtaokkkolbifdpaaGreatDoor.Q33
open Go.RowKit Go.Proofs.YtaokkkolbifdpaaGreatDoorW.PrintWords Go.Proofs.YtaokkkolbifdpaaGreatDoorW.PrintLast Go.Proofs.YtaokkkolbifdpaaGreatDoorW.PrintMore Go.Proofs.YtaokkkolbifdpaaGreatDoor.Hand
attribute [local go_sem] max2_int min2_int max_two min_two max_three min_three max_four min_four   -- for this text's walks alone
set_option linter.unusedVariables false
set_option linter.unusedSimpArgs false
theorem eqA23 (d : Nat) (w : World) (x0 y0 : ByteArray) (x1 y1 : ByteArray) :
    (Op.equalIn (d + 2) 23 (.agg #[.string x0, .string x1]) (.agg #[.string y0, .string y1])).run Tryz.prog w = .ok (x0.toList == y0.toList && (x1.toList == y1.toList)) w := by
  refine eqA_of Tryz.underlying23 (by kernel_rfl) ?_
  refine eqf_cons (by rfl) (by go_simp; rfl) (by go_simp; rfl) (by go_simp) ?_
  exact eqf_last (by rfl) (by go_simp; rfl) (by go_simp; rfl) (by go_simp)
end Go.Proofs.YtaokkkolbifdpaaGreatDoor.Q33
end

section
namespace Go.Proofs.YtaokkkolbifdpaaGreatDoor.Q33
open Go.RowKit Go.Proofs.YtaokkkolbifdpaaGreatDoorW.PrintWords Go.Proofs.YtaokkkolbifdpaaGreatDoorW.PrintLast Go.Proofs.YtaokkkolbifdpaaGreatDoorW.PrintMore Go.Proofs.YtaokkkolbifdpaaGreatDoor.Hand
attribute [local go_sem] max2_int min2_int max_two min_two max_three min_three max_four min_four   -- for this text's walks alone
set_option linter.unusedVariables false
set_option linter.unusedSimpArgs false
attribute [local go_sem high] eqA23
def secateurref19_SamePairs.l0 : Nat → List (S23) → List (S23) → Int → Option (Bool)
  | 0, _, _, _ => none
  | k + 1, x0, x1, x5 => if x5 < (x0.length : Int) then (if 0 ≤ x5 then (if x5 < (x1.length : Int) then (if (!((((rd_T23 x0 x5).f0).toList) == (((rd_T23 x1 x5).f0).toList)) || (!((((rd_T23 x0 x5).f1).toList) == (((rd_T23 x1 x5).f1).toList)))) = true then (some false) else (secateurref19_SamePairs.l0 k x0 x1 (wrap64 (x5 + 1)))) else (none)) else (none)) else (some true)
def secateurref19_SamePairs.f (k : Nat) (l0 : List (S23)) (l1 : List (S23)) : Option (Bool) := if (l0.length : Int) = (l1.length : Int) then (secateurref19_SamePairs.l0 k l0 l1 0) else (some false)
theorem secateurref19_SamePairs.mono_l : ∀ k, (∀ y0 y1 y2, LeO (secateurref19_SamePairs.l0 k y0 y1 y2) (secateurref19_SamePairs.l0 (k + 1) y0 y1 y2))
  | 0 => fun _ _ _ r h => by simp [secateurref19_SamePairs.l0] at h
  | k + 1 => by
    have ih0 := secateurref19_SamePairs.mono_l k
    · intro y0 y1 y2
      unfold secateurref19_SamePairs.l0
      repeat' first
      | (with_reducible exact ih0 _ _ _)
      | (with_reducible exact LeO.refl _)
      | (with_reducible exact LeO.none _)
      | (with_reducible refine LeO.ite ?_ ?_)
      | (with_reducible refine LeO.bind ?_ (fun _ => ?_))
      | exact ih0 _ _ _
      | exact LeO.none _
      | refine LeO.ite ?_ ?_
      | refine LeO.bind ?_ (fun _ => ?_)
theorem secateurref19_SamePairs.mono : ∀ a0 a1 k, LeO (secateurref19_SamePairs.f k a0 a1) (secateurref19_SamePairs.f (k + 1) a0 a1) := by
  intro a0 a1 k
  have ih0 := secateurref19_SamePairs.mono_l k
  unfold secateurref19_SamePairs.f
  repeat' first
      | (with_reducible exact ih0 _ _ _)
      | (with_reducible exact LeO.refl _)
      | (with_reducible exact LeO.none _)
      | (with_reducible refine LeO.ite ?_ ?_)
      | (with_reducible refine LeO.bind ?_ (fun _ => ?_))
      | exact ih0 _ _ _
      | exact LeO.none _
      | refine LeO.ite ?_ ?_
      | refine LeO.bind ?_ (fun _ => ?_)
set_option maxHeartbeats 8000000 in
set_option maxRecDepth 100000 in
theorem secateurref19_SamePairs.calls (k : Nat) (A0 : Option Addr) (c0 : Nat) (l0 : List (S23)) (A1 : Option Addr) (c1 : Nat) (l1 : List (S23)) (r : Bool) (w : World) (hr0 : Kd.C k23 w A0 l0.length l0) (hc0 : l0.length ≤ c0) (hr1 : Kd.C k23 w A1 l1.length l1) (hc1 : l1.length ≤ c1) (h : secateurref19_SamePairs.f k l0 l1 = some r) :
    Calls Tryz.prog 34 #[.slice A0 l0.length c0, .slice A1 l1.length c1] w fun e w' => e = .returned (.bool r) ∧ Drawn0 w w' := by
  have hu23 := Tryz.underlying23
  have HR0 := Aside0.mk hr0
  have HC0 := Aside0.mk hc0
  clear hr0 hc0
  have HR1 := Aside0.mk hr1
  have HC1 := Aside0.mk hc1
  clear hr1 hc1
  have H : (if (l0.length : Int) = (l1.length : Int) then (secateurref19_SamePairs.l0 k l0 l1 0) else (some false)) = some r := h
  clear h
  by_cases c3 : (l0.length : Int) = (l1.length : Int)
  · rw [if_pos c3] at H
    have c3b0 : ((l0.length : Int) == (l1.length : Int)) = true := beq_iff_eq.mpr c3
    have c3b1 : ((l0.length : Int) != (l1.length : Int)) = false := bne_eq_false_iff_eq.mpr c3
    have c3b2 : (l0.length == l1.length) = true := by first | simpa using c3 | (simp at c3 ⊢; omega)
    clear c3
    have H' := Aside0.mk H
    clear H
    go_enter Tryz.func34, Tryz.ntmps34
    go_wp2
    repeat (go_quiet (fail); try go_wp2)
    go_loopg [5] k (fun kq v5 w' => ∃ (x5_1 : Int), v5 = .int .i64 x5_1 ∧ Aside0 (secateurref19_SamePairs.l0 kq l0 l1 x5_1 = some r) ∧ Aside0 (kq ≤ k) ∧ Drawn0 w w')
    case atStart => exact ⟨(0), (by first | rfl | (simp; done) | (simp [*]; done)), H', ⟨Nat.le_refl _⟩, by repeat (first | exact Drawn0.refl _ | apply Drawn0.step)⟩
    case round =>
      clear H'
      try clear c1
      try clear p2
      try clear c3
      try clear c3b0
      try clear c3b1
      try clear c3b2
      obtain ⟨x5_1, rfl, HA, HK1, ⟨m1, rfl⟩⟩ := hrel
      cases gk with
      | zero => exact absurd HA.out (by simp [secateurref19_SamePairs.l0])
      | succ k1 =>
        have H := HA.out
        clear HA
        simp only [secateurref19_SamePairs.l0] at H
        by_cases c4 : x5_1 < (l0.length : Int)
        · rw [if_pos c4] at H
          have c4b0 : decide (x5_1 < (l0.length : Int)) = true := decide_eq_true c4
          clear c4
          by_cases c5 : 0 ≤ x5_1
          · rw [if_pos c5] at H
            have c5b0 : decide (0 ≤ x5_1) = true := decide_eq_true c5
            clear c5
            by_cases c6 : x5_1 < (l1.length : Int)
            · rw [if_pos c6] at H
              have c6b0 : decide (x5_1 < (l1.length : Int)) = true := decide_eq_true c6
              clear c6
              by_cases c7 : (!((((rd_T23 l0 x5_1).f0).toList) == (((rd_T23 l1 x5_1).f0).toList)) || (!((((rd_T23 l0 x5_1).f1).toList) == (((rd_T23 l1 x5_1).f1).toList)))) = true
              · rw [if_pos c7] at H
                have c7b0 : (!((((rd_T23 l0 x5_1).f0).toList) == (((rd_T23 l1 x5_1).f0).toList)) || (!((((rd_T23 l0 x5_1).f1).toList) == (((rd_T23 l1 x5_1).f1).toList)))) = true := c7
                clear c7
                obtain rfl := Option.some.inj H
                have p101 : 0 ≤ (x5_1 : Int) := of_decide_eq_true (by first | (with_reducible assumption) | assumption)
                have q101 : x5_1 < (l0.length : Int) := of_decide_eq_true (by first | (with_reducible assumption) | assumption)
                obtain ⟨ad101, e101, hx101_0, hx101_1⟩ := at_T23 HR0.out x5_1 p101 q101
                cases e101
                replace p101 := eq_true p101
                replace q101 := eq_true q101
                have p102 : 0 ≤ (x5_1 : Int) := of_decide_eq_true (by first | (with_reducible assumption) | assumption)
                have q102 : x5_1 < (l1.length : Int) := of_decide_eq_true (by first | (with_reducible assumption) | assumption)
                obtain ⟨ad102, e102, hx102_0, hx102_1⟩ := at_T23 HR1.out x5_1 p102 q102
                cases e102
                replace p102 := eq_true p102
                replace q102 := eq_true q102
                go_wp2
                repeat (go_quiet (fail); try go_wp2)
                go_ret
                exact ⟨by first | rfl | (simp; done) | (simp [*]; done), by repeat (first | exact Drawn0.refl _ | apply Drawn0.step)⟩
              · rw [if_neg c7] at H
                have c7b0 : (!((((rd_T23 l0 x5_1).f0).toList) == (((rd_T23 l1 x5_1).f0).toList)) || (!((((rd_T23 l0 x5_1).f1).toList) == (((rd_T23 l1 x5_1).f1).toList)))) = false := by simpa using c7
                clear c7
                have H' := Aside0.mk H
                clear H
                have p101 : 0 ≤ (x5_1 : Int) := of_decide_eq_true (by first | (with_reducible assumption) | assumption)
                have q101 : x5_1 < (l0.length : Int) := of_decide_eq_true (by first | (with_reducible assumption) | assumption)
                obtain ⟨ad101, e101, hx101_0, hx101_1⟩ := at_T23 HR0.out x5_1 p101 q101
                cases e101
                replace p101 := eq_true p101
                replace q101 := eq_true q101
                have p102 : 0 ≤ (x5_1 : Int) := of_decide_eq_true (by first | (with_reducible assumption) | assumption)
                have q102 : x5_1 < (l1.length : Int) := of_decide_eq_true (by first | (with_reducible assumption) | assumption)
                obtain ⟨ad102, e102, hx102_0, hx102_1⟩ := at_T23 HR1.out x5_1 p102 q102
                cases e102
                replace p102 := eq_true p102
                replace q102 := eq_true q102
                go_wp2
                repeat (go_quiet (fail); try go_wp2)
                go_roundg k1
                case measure => have := HK1.out; omega
                case rel => exact ⟨(wrap64 (x5_1 + 1)), (by first | rfl | (simp; done) | (simp [*]; done)), H', ⟨by have := HK1.out; omega⟩, by repeat (first | exact Drawn0.refl _ | apply Drawn0.step)⟩
            · rw [if_neg c6] at H
              exact absurd H (by simp)
          · rw [if_neg c5] at H
            exact absurd H (by simp)
        · rw [if_neg c4] at H
          have c4b0 : decide (x5_1 < (l0.length : Int)) = false := decide_eq_false c4
          clear c4
          obtain rfl := Option.some.inj H
          go_wp2
          repeat (go_quiet (fail); try go_wp2)
          go_ret
          exact ⟨by first | rfl | (simp; done) | (simp [*]; done), by repeat (first | exact Drawn0.refl _ | apply Drawn0.step)⟩
  · rw [if_neg c3] at H
    have c3b0 : ((l0.length : Int) == (l1.length : Int)) = false := beq_eq_false_iff_ne.mpr c3
    have c3b1 : ((l0.length : Int) != (l1.length : Int)) = true := bne_iff_ne.mpr c3
    have c3b2 : (l0.length == l1.length) = false := by first | simpa using c3 | (simp at c3 ⊢; omega)
    obtain rfl := Option.some.inj H
    go_enter Tryz.func34, Tryz.ntmps34
    go_wp2
    repeat (go_quiet (fail); try go_wp2)
    go_ret
    exact ⟨by first | rfl | (simp; done) | (simp [*]; done), by repeat (first | exact Drawn0.refl _ | apply Drawn0.step)⟩
def secateurref29_Same.f (k : Nat) (l0_0 : List (S23)) (l0_1 : List (S23)) (l0_2 : List (S23)) (l1_0 : List (S23)) (l1_1 : List (S23)) (l1_2 : List (S23)) : Option (Bool) := (secateurref19_SamePairs.f k l0_0 l1_0).bind fun t105 => (if t105 = true then ((secateurref19_SamePairs.f k l0_1 l1_1).bind fun t106 => (if t106 = true then ((secateurref19_SamePairs.f k l0_2 l1_2).bind fun t107 => (some t107)) else (some false))) else (some false))
theorem secateurref29_Same.mono : ∀ a0 a1 a2 a3 a4 a5 k, LeO (secateurref29_Same.f k a0 a1 a2 a3 a4 a5) (secateurref29_Same.f (k + 1) a0 a1 a2 a3 a4 a5) := by
  intro a0 a1 a2 a3 a4 a5 k
  unfold secateurref29_Same.f
  repeat' first
      | (with_reducible exact secateurref19_SamePairs.mono _ _ _)
      | (with_reducible exact LeO.refl _)
      | (with_reducible exact LeO.none _)
      | (with_reducible refine LeO.ite ?_ ?_)
      | (with_reducible refine LeO.bind ?_ (fun _ => ?_))
      | exact secateurref19_SamePairs.mono _ _ _
      | exact LeO.none _
      | refine LeO.ite ?_ ?_
      | refine LeO.bind ?_ (fun _ => ?_)
set_option maxHeartbeats 8000000 in
set_option maxRecDepth 100000 in
theorem secateurref29_Same.calls (k : Nat) (A0_0 : Option Addr) (c0_0 : Nat) (l0_0 : List (S23)) (A0_1 : Option Addr) (c0_1 : Nat) (l0_1 : List (S23)) (A0_2 : Option Addr) (c0_2 : Nat) (l0_2 : List (S23)) (A1_0 : Option Addr) (c1_0 : Nat) (l1_0 : List (S23)) (A1_1 : Option Addr) (c1_1 : Nat) (l1_1 : List (S23)) (A1_2 : Option Addr) (c1_2 : Nat) (l1_2 : List (S23)) (r : Bool) (w : World) (hr0_0 : Kd.C k23 w A0_0 l0_0.length l0_0) (hc0_0 : l0_0.length ≤ c0_0) (hr0_1 : Kd.C k23 w A0_1 l0_1.length l0_1) (hc0_1 : l0_1.length ≤ c0_1) (hr0_2 : Kd.C k23 w A0_2 l0_2.length l0_2) (hc0_2 : l0_2.length ≤ c0_2) (hr1_0 : Kd.C k23 w A1_0 l1_0.length l1_0) (hc1_0 : l1_0.length ≤ c1_0) (hr1_1 : Kd.C k23 w A1_1 l1_1.length l1_1) (hc1_1 : l1_1.length ≤ c1_1) (hr1_2 : Kd.C k23 w A1_2 l1_2.length l1_2) (hc1_2 : l1_2.length ≤ c1_2) (h : secateurref29_Same.f k l0_0 l0_1 l0_2 l1_0 l1_1 l1_2 = some r) :
    Calls Tryz.prog 17 #[.agg #[.slice A0_0 l0_0.length c0_0, .slice A0_1 l0_1.length c0_1, .slice A0_2 l0_2.length c0_2], .agg #[.slice A1_0 l1_0.length c1_0, .slice A1_1 l1_1.length c1_1, .slice A1_2 l1_2.length c1_2]] w fun e w' => e = .returned (.bool r) ∧ Below w.heap.size w w' := by
  have hu34 := Tryz.underlying34
  have HR0_0 := Aside0.mk hr0_0
  have HC0_0 := Aside0.mk hc0_0
  clear hr0_0 hc0_0
  have HR0_1 := Aside0.mk hr0_1
  have HC0_1 := Aside0.mk hc0_1
  clear hr0_1 hc0_1
  have HR0_2 := Aside0.mk hr0_2
  have HC0_2 := Aside0.mk hc0_2
  clear hr0_2 hc0_2
  have HR1_0 := Aside0.mk hr1_0
  have HC1_0 := Aside0.mk hc1_0
  clear hr1_0 hc1_0
  have HR1_1 := Aside0.mk hr1_1
  have HC1_1 := Aside0.mk hc1_1
  clear hr1_1 hc1_1
  have HR1_2 := Aside0.mk hr1_2
  have HC1_2 := Aside0.mk hc1_2
  clear hr1_2 hc1_2
  have HB := Aside0.mk (Below.refl w.heap.size w)
  have H : ((secateurref19_SamePairs.f k l0_0 l1_0).bind fun t105 => (if t105 = true then ((secateurref19_SamePairs.f k l0_1 l1_1).bind fun t106 => (if t106 = true then ((secateurref19_SamePairs.f k l0_2 l1_2).bind fun t107 => (some t107)) else (some false))) else (some false))) = some r := h
  clear h
  replace H := Option.bind_eq_some_iff.mp H
  obtain ⟨t105, A30, H⟩ := H
  replace H : (if t105 = true then ((secateurref19_SamePairs.f k l0_1 l1_1).bind fun t106 => (if t106 = true then ((secateurref19_SamePairs.f k l0_2 l1_2).bind fun t107 => (some t107)) else (some false))) else (some false)) = some r := H
  have A3 := Aside0.mk A30
  clear A30
  by_cases c4 : t105 = true
  · subst c4
    have H1 : ((secateurref19_SamePairs.f k l0_1 l1_1).bind fun t106 => (if t106 = true then ((secateurref19_SamePairs.f k l0_2 l1_2).bind fun t107 => (some t107)) else (some false))) = some r := by rw [if_pos rfl] at H; exact H
    clear H
    have H := H1
    clear H1
    replace H := Option.bind_eq_some_iff.mp H
    obtain ⟨t106, A50, H⟩ := H
    replace H : (if t106 = true then ((secateurref19_SamePairs.f k l0_2 l1_2).bind fun t107 => (some t107)) else (some false)) = some r := H
    have A5 := Aside0.mk A50
    clear A50
    by_cases c6 : t106 = true
    · subst c6
      have H1 : ((secateurref19_SamePairs.f k l0_2 l1_2).bind fun t107 => (some t107)) = some r := by rw [if_pos rfl] at H; exact H
      clear H
      have H := H1
      clear H1
      replace H := Option.bind_eq_some_iff.mp H
      obtain ⟨t107, A70, H⟩ := H
      replace H : (some t107) = some r := H
      have A7 := Aside0.mk A70
      clear A70
      obtain rfl := Option.some.inj H
      go_enter Tryz.func17, Tryz.ntmps17
      go_wp2_with (first | ((with_reducible refine gate_dst (N := 2) rfl ?_); refine box_event ?hg (N := 2) ?hd (cs := #[.slice A0_0 l0_0.length c0_0, .slice A0_1 l0_1.length c0_1, .slice A0_2 l0_2.length c0_2]) (t := 34) ?hr ?_; (case hd => rfl); (case hg => rfl); (case hr => first | (go_simp; done) | (go_simp; rfl)); intro gb103 hg w8 hbox hb; have n0_ := Aside0.mk (below_step (by repeat (first | (with_reducible first | exact HB.out | apply below_alloc | apply pw_below_drewN | apply below_drew1) | exact HB.out)) hb); have n1_ := Aside0.mk (hbox); have n2_ := Aside0.mk ((by rw [hg]; exact (below_size (by repeat (first | (with_reducible first | exact HB.out | apply below_alloc | apply pw_below_drewN | apply below_drew1) | exact HB.out))) : w.heap.size ≤ gb103)); have n3_ := Aside0.mk ((by rw [hg]; exact (below_size (by repeat (first | (with_reducible first | exact HB.out | apply below_alloc | apply pw_below_drewN | apply below_drew1) | exact HB.out))) : w.heap.size ≤ gb103)); clear HB; have HB := n0_; have BK103 := n1_; have GW103 := n2_; have GE103 := n3_; clear n0_ n1_ n2_ n3_; clear hb hbox hg) | ((with_reducible refine gate_dst (N := 3) rfl ?_); refine box_event ?hg (N := 3) ?hd (cs := #[.slice A1_0 l1_0.length c1_0, .slice A1_1 l1_1.length c1_1, .slice A1_2 l1_2.length c1_2]) (t := 34) ?hr ?_; (case hd => rfl); (case hg => rfl); (case hr => first | (go_simp; done) | (go_simp; rfl)); intro gb104 hg w9 hbox hb; have n0_ := Aside0.mk (blk_below (g := gb103) (o := .cells #[.slice A0_0 l0_0.length c0_0, .slice A0_1 l0_1.length c0_1, .slice A0_2 l0_2.length c0_2] 34 (0, 0)) (by (with_reducible repeat (first | refine blk_drewN ?_ _ | refine blk_drew ?_ | refine blk_alloc ?_ _)); exact BK103.out) hb); have n1_ := Aside0.mk (below_step (by repeat (first | (with_reducible first | exact HB.out | apply below_alloc | apply pw_below_drewN | apply below_drew1 | refine below_set ?_ GE103.out) | exact HB.out)) hb); have n2_ := Aside0.mk (hbox); have n3_ := Aside0.mk ((by rw [hg]; exact (below_size (by repeat (first | (with_reducible first | exact HB.out | apply below_alloc | apply pw_below_drewN | apply below_drew1 | refine below_set ?_ GE103.out) | exact HB.out))) : w.heap.size ≤ gb104)); have n4_ := Aside0.mk ((by rw [hg]; exact (below_size (by repeat (first | (with_reducible first | exact HB.out | apply below_alloc | apply pw_below_drewN | apply below_drew1 | refine below_set ?_ GE103.out) | exact HB.out))) : w.heap.size ≤ gb104)); have n5_ := Aside0.mk ((by rw [hg]; exact Nat.ne_of_lt (blk_lt (g := gb103) (o := .cells #[.slice A0_0 l0_0.length c0_0, .slice A0_1 l0_1.length c0_1, .slice A0_2 l0_2.length c0_2] 34 (0, 0)) (by (with_reducible repeat (first | refine blk_drewN ?_ _ | refine blk_drew ?_ | refine blk_alloc ?_ _)); exact BK103.out)) : gb103 ≠ gb104)); have n6_ := Aside0.mk ((by rw [hg]; exact Nat.ne_of_gt (blk_lt (g := gb103) (o := .cells #[.slice A0_0 l0_0.length c0_0, .slice A0_1 l0_1.length c0_1, .slice A0_2 l0_2.length c0_2] 34 (0, 0)) (by (with_reducible repeat (first | refine blk_drewN ?_ _ | refine blk_drew ?_ | refine blk_alloc ?_ _)); exact BK103.out)) : gb104 ≠ gb103)); clear BK103; clear HB; have BK103 := n0_; have HB := n1_; have BK104 := n2_; have GW104 := n3_; have GE104 := n4_; have NB103_104 := n5_; have NB104_103 := n6_; clear n0_ n1_ n2_ n3_ n4_ n5_ n6_; clear hb hbox hg; have hnb10 := NB103_104.out; have hnc10 := NB104_103.out; have hcz11_0 : w9.cell? ⟨gb103, 0, none⟩ = some (.slice A0_0 l0_0.length c0_0) := (blk_cell BK103.out 0).trans rfl; have hcz11_1 : w9.cell? ⟨gb103, 1, none⟩ = some (.slice A0_1 l0_1.length c0_1) := (blk_cell BK103.out 1).trans rfl; have hcz11_2 : w9.cell? ⟨gb103, 2, none⟩ = some (.slice A0_2 l0_2.length c0_2) := (blk_cell BK103.out 2).trans rfl; have hfz11_0 := blk_frozen BK103.out 0; have hfz11_1 := blk_frozen BK103.out 1; have hfz11_2 := blk_frozen BK103.out 2; have hcz12_0 : w9.cell? ⟨gb104, 0, none⟩ = some (.slice A1_0 l1_0.length c1_0) := (blk_cell BK104.out 0).trans rfl; have hcz12_1 : w9.cell? ⟨gb104, 1, none⟩ = some (.slice A1_1 l1_1.length c1_1) := (blk_cell BK104.out 1).trans rfl; have hcz12_2 : w9.cell? ⟨gb104, 2, none⟩ = some (.slice A1_2 l1_2.length c1_2) := (blk_cell BK104.out 2).trans rfl; have hfz12_0 := blk_frozen BK104.out 0; have hfz12_1 := blk_frozen BK104.out 1; have hfz12_2 := blk_frozen BK104.out 2) | ((with_reducible refine gate_callee (f := 34) rfl ?_); refine goesL_ (some 9) rfl rfl Tryz.func34 (by kernel_rfl) rfl #[.slice A0_0 l0_0.length c0_0, .slice A1_0 l1_0.length c1_0] rfl (by (try simp only [List.map_toArray, List.map_cons, List.map_nil]); first | done | rfl | (simp only [List.length_drop, List.length_take]; rfl)) ?_; (with_reducible refine (secateurref19_SamePairs.calls k _ _ l0_0 _ _ l1_0 true _ ?side1 ?side2 ?side3 ?side4 A3.out).mono ?_); (case side1 => repeat (first | exact (Kd.C_below HR0_0.out HB.out) | (with_reducible refine Kd.C_alloc ?_ _) | (with_reducible refine Kd.C_drewN ?_ _) | (with_reducible refine Kd.C_drew ?_))); (case side2 => exact HC0_0.out); (case side3 => repeat (first | exact (Kd.C_below HR1_0.out HB.out) | (with_reducible refine Kd.C_alloc ?_ _) | (with_reducible refine Kd.C_drewN ?_ _) | (with_reducible refine Kd.C_drew ?_))); (case side4 => exact HC1_0.out); rintro e w' ⟨rfl, ⟨nd, rfl⟩⟩; refine ⟨_, rfl, ?_⟩) | (go_at_call 34; (with_reducible refine (secateurref19_SamePairs.calls k _ _ l0_1 _ _ l1_1 true _ ?side1 ?side2 ?side3 ?side4 A5.out).mono ?_); (case side1 => repeat (first | exact (Kd.C_below HR0_1.out (by repeat (first | (with_reducible first | exact HB.out | apply below_alloc | apply pw_below_drewN | apply below_drew1 | refine below_set ?_ GE103.out | refine below_set ?_ GE104.out) | exact HB.out))) | (with_reducible refine Kd.C_alloc ?_ _) | (with_reducible refine Kd.C_drewN ?_ _) | (with_reducible refine Kd.C_drew ?_))); (case side2 => exact HC0_1.out); (case side3 => repeat (first | exact (Kd.C_below HR1_1.out (by repeat (first | (with_reducible first | exact HB.out | apply below_alloc | apply pw_below_drewN | apply below_drew1 | refine below_set ?_ GE103.out | refine below_set ?_ GE104.out) | exact HB.out))) | (with_reducible refine Kd.C_alloc ?_ _) | (with_reducible refine Kd.C_drewN ?_ _) | (with_reducible refine Kd.C_drew ?_))); (case side4 => exact HC1_1.out); rintro e w' ⟨rfl, ⟨nd, rfl⟩⟩) | (go_at_call 34; (with_reducible refine (secateurref19_SamePairs.calls k _ _ l0_2 _ _ l1_2 t107 _ ?side1 ?side2 ?side3 ?side4 A7.out).mono ?_); (case side1 => repeat (first | exact (Kd.C_below HR0_2.out (by repeat (first | (with_reducible first | exact HB.out | apply below_alloc | apply pw_below_drewN | apply below_drew1 | refine below_set ?_ GE103.out | refine below_set ?_ GE104.out) | exact HB.out))) | (with_reducible refine Kd.C_alloc ?_ _) | (with_reducible refine Kd.C_drewN ?_ _) | (with_reducible refine Kd.C_drew ?_))); (case side2 => exact HC0_2.out); (case side3 => repeat (first | exact (Kd.C_below HR1_2.out (by repeat (first | (with_reducible first | exact HB.out | apply below_alloc | apply pw_below_drewN | apply below_drew1 | refine below_set ?_ GE103.out | refine below_set ?_ GE104.out) | exact HB.out))) | (with_reducible refine Kd.C_alloc ?_ _) | (with_reducible refine Kd.C_drewN ?_ _) | (with_reducible refine Kd.C_drew ?_))); (case side4 => exact HC1_2.out); rintro e w' ⟨rfl, ⟨nd, rfl⟩⟩))
      go_ret
      exact ⟨by first | rfl | (simp [errW_none, errW_some] <;> rfl) | (simp [*, errW_none, errW_some] <;> rfl), by repeat (first | (with_reducible first | exact HB.out | apply below_alloc | apply pw_below_drewN | apply below_drew1 | refine below_set ?_ GE103.out | refine below_set ?_ GE104.out) | exact HB.out)⟩
    · replace c6 := Bool.eq_false_iff.mpr c6
      subst c6
      have H1 : (some false) = some r := by rw [if_neg (show ¬ (false = true) by decide)] at H; exact H
      clear H
      have H := H1
      clear H1
      obtain rfl := Option.some.inj H
      go_enter Tryz.func17, Tryz.ntmps17
      go_wp2_with (first | ((with_reducible refine gate_dst (N := 2) rfl ?_); refine box_event ?hg (N := 2) ?hd (cs := #[.slice A0_0 l0_0.length c0_0, .slice A0_1 l0_1.length c0_1, .slice A0_2 l0_2.length c0_2]) (t := 34) ?hr ?_; (case hd => rfl); (case hg => rfl); (case hr => first | (go_simp; done) | (go_simp; rfl)); intro gb103 hg w13 hbox hb; have n0_ := Aside0.mk (below_step (by repeat (first | (with_reducible first | exact HB.out | apply below_alloc | apply pw_below_drewN | apply below_drew1) | exact HB.out)) hb); have n1_ := Aside0.mk (hbox); have n2_ := Aside0.mk ((by rw [hg]; exact (below_size (by repeat (first | (with_reducible first | exact HB.out | apply below_alloc | apply pw_below_drewN | apply below_drew1) | exact HB.out))) : w.heap.size ≤ gb103)); have n3_ := Aside0.mk ((by rw [hg]; exact (below_size (by repeat (first | (with_reducible first | exact HB.out | apply below_alloc | apply pw_below_drewN | apply below_drew1) | exact HB.out))) : w.heap.size ≤ gb103)); clear HB; have HB := n0_; have BK103 := n1_; have GW103 := n2_; have GE103 := n3_; clear n0_ n1_ n2_ n3_; clear hb hbox hg) | ((with_reducible refine gate_dst (N := 3) rfl ?_); refine box_event ?hg (N := 3) ?hd (cs := #[.slice A1_0 l1_0.length c1_0, .slice A1_1 l1_1.length c1_1, .slice A1_2 l1_2.length c1_2]) (t := 34) ?hr ?_; (case hd => rfl); (case hg => rfl); (case hr => first | (go_simp; done) | (go_simp; rfl)); intro gb104 hg w14 hbox hb; have n0_ := Aside0.mk (blk_below (g := gb103) (o := .cells #[.slice A0_0 l0_0.length c0_0, .slice A0_1 l0_1.length c0_1, .slice A0_2 l0_2.length c0_2] 34 (0, 0)) (by (with_reducible repeat (first | refine blk_drewN ?_ _ | refine blk_drew ?_ | refine blk_alloc ?_ _)); exact BK103.out) hb); have n1_ := Aside0.mk (below_step (by repeat (first | (with_reducible first | exact HB.out | apply below_alloc | apply pw_below_drewN | apply below_drew1 | refine below_set ?_ GE103.out) | exact HB.out)) hb); have n2_ := Aside0.mk (hbox); have n3_ := Aside0.mk ((by rw [hg]; exact (below_size (by repeat (first | (with_reducible first | exact HB.out | apply below_alloc | apply pw_below_drewN | apply below_drew1 | refine below_set ?_ GE103.out) | exact HB.out))) : w.heap.size ≤ gb104)); have n4_ := Aside0.mk ((by rw [hg]; exact (below_size (by repeat (first | (with_reducible first | exact HB.out | apply below_alloc | apply pw_below_drewN | apply below_drew1 | refine below_set ?_ GE103.out) | exact HB.out))) : w.heap.size ≤ gb104)); have n5_ := Aside0.mk ((by rw [hg]; exact Nat.ne_of_lt (blk_lt (g := gb103) (o := .cells #[.slice A0_0 l0_0.length c0_0, .slice A0_1 l0_1.length c0_1, .slice A0_2 l0_2.length c0_2] 34 (0, 0)) (by (with_reducible repeat (first | refine blk_drewN ?_ _ | refine blk_drew ?_ | refine blk_alloc ?_ _)); exact BK103.out)) : gb103 ≠ gb104)); have n6_ := Aside0.mk ((by rw [hg]; exact Nat.ne_of_gt (blk_lt (g := gb103) (o := .cells #[.slice A0_0 l0_0.length c0_0, .slice A0_1 l0_1.length c0_1, .slice A0_2 l0_2.length c0_2] 34 (0, 0)) (by (with_reducible repeat (first | refine blk_drewN ?_ _ | refine blk_drew ?_ | refine blk_alloc ?_ _)); exact BK103.out)) : gb104 ≠ gb103)); clear BK103; clear HB; have BK103 := n0_; have HB := n1_; have BK104 := n2_; have GW104 := n3_; have GE104 := n4_; have NB103_104 := n5_; have NB104_103 := n6_; clear n0_ n1_ n2_ n3_ n4_ n5_ n6_; clear hb hbox hg; have hnb15 := NB103_104.out; have hnc15 := NB104_103.out; have hcz16_0 : w14.cell? ⟨gb103, 0, none⟩ = some (.slice A0_0 l0_0.length c0_0) := (blk_cell BK103.out 0).trans rfl; have hcz16_1 : w14.cell? ⟨gb103, 1, none⟩ = some (.slice A0_1 l0_1.length c0_1) := (blk_cell BK103.out 1).trans rfl; have hcz16_2 : w14.cell? ⟨gb103, 2, none⟩ = some (.slice A0_2 l0_2.length c0_2) := (blk_cell BK103.out 2).trans rfl; have hfz16_0 := blk_frozen BK103.out 0; have hfz16_1 := blk_frozen BK103.out 1; have hfz16_2 := blk_frozen BK103.out 2; have hcz17_0 : w14.cell? ⟨gb104, 0, none⟩ = some (.slice A1_0 l1_0.length c1_0) := (blk_cell BK104.out 0).trans rfl; have hcz17_1 : w14.cell? ⟨gb104, 1, none⟩ = some (.slice A1_1 l1_1.length c1_1) := (blk_cell BK104.out 1).trans rfl; have hcz17_2 : w14.cell? ⟨gb104, 2, none⟩ = some (.slice A1_2 l1_2.length c1_2) := (blk_cell BK104.out 2).trans rfl; have hfz17_0 := blk_frozen BK104.out 0; have hfz17_1 := blk_frozen BK104.out 1; have hfz17_2 := blk_frozen BK104.out 2) | ((with_reducible refine gate_callee (f := 34) rfl ?_); refine goesL_ (some 9) rfl rfl Tryz.func34 (by kernel_rfl) rfl #[.slice A0_0 l0_0.length c0_0, .slice A1_0 l1_0.length c1_0] rfl (by (try simp only [List.map_toArray, List.map_cons, List.map_nil]); first | done | rfl | (simp only [List.length_drop, List.length_take]; rfl)) ?_; (with_reducible refine (secateurref19_SamePairs.calls k _ _ l0_0 _ _ l1_0 true _ ?side1 ?side2 ?side3 ?side4 A3.out).mono ?_); (case side1 => repeat (first | exact (Kd.C_below HR0_0.out HB.out) | (with_reducible refine Kd.C_alloc ?_ _) | (with_reducible refine Kd.C_drewN ?_ _) | (with_reducible refine Kd.C_drew ?_))); (case side2 => exact HC0_0.out); (case side3 => repeat (first | exact (Kd.C_below HR1_0.out HB.out) | (with_reducible refine Kd.C_alloc ?_ _) | (with_reducible refine Kd.C_drewN ?_ _) | (with_reducible refine Kd.C_drew ?_))); (case side4 => exact HC1_0.out); rintro e w' ⟨rfl, ⟨nd, rfl⟩⟩; refine ⟨_, rfl, ?_⟩) | (go_at_call 34; (with_reducible refine (secateurref19_SamePairs.calls k _ _ l0_1 _ _ l1_1 false _ ?side1 ?side2 ?side3 ?side4 A5.out).mono ?_); (case side1 => repeat (first | exact (Kd.C_below HR0_1.out (by repeat (first | (with_reducible first | exact HB.out | apply below_alloc | apply pw_below_drewN | apply below_drew1 | refine below_set ?_ GE103.out | refine below_set ?_ GE104.out) | exact HB.out))) | (with_reducible refine Kd.C_alloc ?_ _) | (with_reducible refine Kd.C_drewN ?_ _) | (with_reducible refine Kd.C_drew ?_))); (case side2 => exact HC0_1.out); (case side3 => repeat (first | exact (Kd.C_below HR1_1.out (by repeat (first | (with_reducible first | exact HB.out | apply below_alloc | apply pw_below_drewN | apply below_drew1 | refine below_set ?_ GE103.out | refine below_set ?_ GE104.out) | exact HB.out))) | (with_reducible refine Kd.C_alloc ?_ _) | (with_reducible refine Kd.C_drewN ?_ _) | (with_reducible refine Kd.C_drew ?_))); (case side4 => exact HC1_1.out); rintro e w' ⟨rfl, ⟨nd, rfl⟩⟩))
      go_ret
      exact ⟨by first | rfl | (simp [errW_none, errW_some] <;> rfl) | (simp [*, errW_none, errW_some] <;> rfl), by repeat (first | (with_reducible first | exact HB.out | apply below_alloc | apply pw_below_drewN | apply below_drew1 | refine below_set ?_ GE103.out | refine below_set ?_ GE104.out) | exact HB.out)⟩
  · replace c4 := Bool.eq_false_iff.mpr c4
    subst c4
    have H1 : (some false) = some r := by rw [if_neg (show ¬ (false = true) by decide)] at H; exact H
    clear H
    have H := H1
    clear H1
    obtain rfl := Option.some.inj H
    go_enter Tryz.func17, Tryz.ntmps17
    go_wp2_with (first | ((with_reducible refine gate_dst (N := 2) rfl ?_); refine box_event ?hg (N := 2) ?hd (cs := #[.slice A0_0 l0_0.length c0_0, .slice A0_1 l0_1.length c0_1, .slice A0_2 l0_2.length c0_2]) (t := 34) ?hr ?_; (case hd => rfl); (case hg => rfl); (case hr => first | (go_simp; done) | (go_simp; rfl)); intro gb103 hg w18 hbox hb; have n0_ := Aside0.mk (below_step (by repeat (first | (with_reducible first | exact HB.out | apply below_alloc | apply pw_below_drewN | apply below_drew1) | exact HB.out)) hb); have n1_ := Aside0.mk (hbox); have n2_ := Aside0.mk ((by rw [hg]; exact (below_size (by repeat (first | (with_reducible first | exact HB.out | apply below_alloc | apply pw_below_drewN | apply below_drew1) | exact HB.out))) : w.heap.size ≤ gb103)); have n3_ := Aside0.mk ((by rw [hg]; exact (below_size (by repeat (first | (with_reducible first | exact HB.out | apply below_alloc | apply pw_below_drewN | apply below_drew1) | exact HB.out))) : w.heap.size ≤ gb103)); clear HB; have HB := n0_; have BK103 := n1_; have GW103 := n2_; have GE103 := n3_; clear n0_ n1_ n2_ n3_; clear hb hbox hg) | ((with_reducible refine gate_dst (N := 3) rfl ?_); refine box_event ?hg (N := 3) ?hd (cs := #[.slice A1_0 l1_0.length c1_0, .slice A1_1 l1_1.length c1_1, .slice A1_2 l1_2.length c1_2]) (t := 34) ?hr ?_; (case hd => rfl); (case hg => rfl); (case hr => first | (go_simp; done) | (go_simp; rfl)); intro gb104 hg w19 hbox hb; have n0_ := Aside0.mk (blk_below (g := gb103) (o := .cells #[.slice A0_0 l0_0.length c0_0, .slice A0_1 l0_1.length c0_1, .slice A0_2 l0_2.length c0_2] 34 (0, 0)) (by (with_reducible repeat (first | refine blk_drewN ?_ _ | refine blk_drew ?_ | refine blk_alloc ?_ _)); exact BK103.out) hb); have n1_ := Aside0.mk (below_step (by repeat (first | (with_reducible first | exact HB.out | apply below_alloc | apply pw_below_drewN | apply below_drew1 | refine below_set ?_ GE103.out) | exact HB.out)) hb); have n2_ := Aside0.mk (hbox); have n3_ := Aside0.mk ((by rw [hg]; exact (below_size (by repeat (first | (with_reducible first | exact HB.out | apply below_alloc | apply pw_below_drewN | apply below_drew1 | refine below_set ?_ GE103.out) | exact HB.out))) : w.heap.size ≤ gb104)); have n4_ := Aside0.mk ((by rw [hg]; exact (below_size (by repeat (first | (with_reducible first | exact HB.out | apply below_alloc | apply pw_below_drewN | apply below_drew1 | refine below_set ?_ GE103.out) | exact HB.out))) : w.heap.size ≤ gb104)); have n5_ := Aside0.mk ((by rw [hg]; exact Nat.ne_of_lt (blk_lt (g := gb103) (o := .cells #[.slice A0_0 l0_0.length c0_0, .slice A0_1 l0_1.length c0_1, .slice A0_2 l0_2.length c0_2] 34 (0, 0)) (by (with_reducible repeat (first | refine blk_drewN ?_ _ | refine blk_drew ?_ | refine blk_alloc ?_ _)); exact BK103.out)) : gb103 ≠ gb104)); have n6_ := Aside0.mk ((by rw [hg]; exact Nat.ne_of_gt (blk_lt (g := gb103) (o := .cells #[.slice A0_0 l0_0.length c0_0, .slice A0_1 l0_1.length c0_1, .slice A0_2 l0_2.length c0_2] 34 (0, 0)) (by (with_reducible repeat (first | refine blk_drewN ?_ _ | refine blk_drew ?_ | refine blk_alloc ?_ _)); exact BK103.out)) : gb104 ≠ gb103)); clear BK103; clear HB; have BK103 := n0_; have HB := n1_; have BK104 := n2_; have GW104 := n3_; have GE104 := n4_; have NB103_104 := n5_; have NB104_103 := n6_; clear n0_ n1_ n2_ n3_ n4_ n5_ n6_; clear hb hbox hg; have hnb20 := NB103_104.out; have hnc20 := NB104_103.out; have hcz21_0 : w19.cell? ⟨gb103, 0, none⟩ = some (.slice A0_0 l0_0.length c0_0) := (blk_cell BK103.out 0).trans rfl; have hcz21_1 : w19.cell? ⟨gb103, 1, none⟩ = some (.slice A0_1 l0_1.length c0_1) := (blk_cell BK103.out 1).trans rfl; have hcz21_2 : w19.cell? ⟨gb103, 2, none⟩ = some (.slice A0_2 l0_2.length c0_2) := (blk_cell BK103.out 2).trans rfl; have hfz21_0 := blk_frozen BK103.out 0; have hfz21_1 := blk_frozen BK103.out 1; have hfz21_2 := blk_frozen BK103.out 2; have hcz22_0 : w19.cell? ⟨gb104, 0, none⟩ = some (.slice A1_0 l1_0.length c1_0) := (blk_cell BK104.out 0).trans rfl; have hcz22_1 : w19.cell? ⟨gb104, 1, none⟩ = some (.slice A1_1 l1_1.length c1_1) := (blk_cell BK104.out 1).trans rfl; have hcz22_2 : w19.cell? ⟨gb104, 2, none⟩ = some (.slice A1_2 l1_2.length c1_2) := (blk_cell BK104.out 2).trans rfl; have hfz22_0 := blk_frozen BK104.out 0; have hfz22_1 := blk_frozen BK104.out 1; have hfz22_2 := blk_frozen BK104.out 2) | ((with_reducible refine gate_callee (f := 34) rfl ?_); refine goesL_ (some 9) rfl rfl Tryz.func34 (by kernel_rfl) rfl #[.slice A0_0 l0_0.length c0_0, .slice A1_0 l1_0.length c1_0] rfl (by (try simp only [List.map_toArray, List.map_cons, List.map_nil]); first | done | rfl | (simp only [List.length_drop, List.length_take]; rfl)) ?_; (with_reducible refine (secateurref19_SamePairs.calls k _ _ l0_0 _ _ l1_0 false _ ?side1 ?side2 ?side3 ?side4 A3.out).mono ?_); (case side1 => repeat (first | exact (Kd.C_below HR0_0.out HB.out) | (with_reducible refine Kd.C_alloc ?_ _) | (with_reducible refine Kd.C_drewN ?_ _) | (with_reducible refine Kd.C_drew ?_))); (case side2 => exact HC0_0.out); (case side3 => repeat (first | exact (Kd.C_below HR1_0.out HB.out) | (with_reducible refine Kd.C_alloc ?_ _) | (with_reducible refine Kd.C_drewN ?_ _) | (with_reducible refine Kd.C_drew ?_))); (case side4 => exact HC1_0.out); rintro e w' ⟨rfl, ⟨nd, rfl⟩⟩; refine ⟨_, rfl, ?_⟩))
    go_ret
    exact ⟨by first | rfl | (simp [errW_none, errW_some] <;> rfl) | (simp [*, errW_none, errW_some] <;> rfl), by repeat (first | (with_reducible first | exact HB.out | apply below_alloc | apply pw_below_drewN | apply below_drew1 | refine below_set ?_ GE103.out | refine below_set ?_ GE104.out) | exact HB.out)⟩
end Go.Proofs.YtaokkkolbifdpaaGreatDoor.Q33
end

section
namespace Go.Proofs.YtaokkkolbifdpaaGreatDoor.Q33
open Go.RowKit Go.Proofs.YtaokkkolbifdpaaGreatDoorW.PrintWords Go.Proofs.YtaokkkolbifdpaaGreatDoorW.PrintLast Go.Proofs.YtaokkkolbifdpaaGreatDoorW.PrintMore
attribute [local go_sem] max2_int min2_int max_two min_two max_three min_three max_four min_four   -- for this text's walks alone
set_option linter.unusedVariables false
set_option linter.unusedSimpArgs false
end Go.Proofs.YtaokkkolbifdpaaGreatDoor.Q33
end

section
namespace Go.Proofs.YtaokkkolbifdpaaGreatDoor.Hand
open Go.RowKit Go.Proofs.YtaokkkolbifdpaaGreatDoorW.PrintWords Go.Proofs.YtaokkkolbifdpaaGreatDoorW.PrintLast Go.Proofs.YtaokkkolbifdpaaGreatDoorW.PrintMore
set_option linter.unusedVariables false
set_option linter.unusedSimpArgs false
def fixC : S23 := ⟨⟨#[65, 108, 112, 104, 97]⟩, ⟨#[36]⟩⟩
def fixM : S23 := ⟨⟨#[109, 40, 73, 41, 86]⟩, ⟨#[36, 48]⟩⟩
def fixT : List UInt8 := [99, 108, 97, 115, 115, 32, 65, 108, 112, 104, 97, 32, 36, 10, 109, 101, 116, 104, 111, 100, 32, 109, 32, 40, 73, 41, 86, 32, 36, 48, 10]
theorem rising_one (x : List UInt8) : risingB [x] = [x] := by
  unfold risingB
  rw [List.mergeSort_singleton]
  unfold Lib.compact Lib.compactUpTo
  rfl
theorem unlike_one (x : List UInt8) : unlikeB [x] = true := by unfold unlikeB; rw [rising_one]; rfl
theorem unlike_nil : unlikeB [] = true := by unfold unlikeB; rw [rising_nil]; rfl
theorem rises_short (l : List S23) (h : l.length ≤ 1) : risesP l = true := decide_eq_true fun i hi => absurd hi (by omega)
theorem fix_right : rightS [fixC] [] [fixM] = true := by
  unfold rightS
  rw [rises_short _ (by decide), rises_short _ (by decide), rises_short _ (by decide)]
  simp only [List.map_cons, List.map_nil]
  rw [unlike_one, unlike_nil, unlike_one]
  decide +kernel
theorem fix_print : printS [fixC] [] [fixM] = (fixT, 0) := by
  unfold printS
  rw [fix_right, if_pos rfl]
  have h : textL (linesAll [fixC] [] [fixM]) = fixT := by decide +kernel
  rw [h]
  rfl
theorem fix_lines : linesL fixT = ([[99, 108, 97, 115, 115, 32, 65, 108, 112, 104, 97, 32, 36], [109, 101, 116, 104, 111, 100, 32, 109, 32, 40, 73, 41, 86, 32, 36, 48]], 0, 0) := by decide +kernel
theorem fix_reads : readsF [[99, 108, 97, 115, 115, 32, 65, 108, 112, 104, 97, 32, 36], [109, 101, 116, 104, 111, 100, 32, 109, 32, 40, 73, 41, 86, 32, 36, 48]] 0 ([], [], []) = (([fixC], [], [fixM]), 0) := by rfl
theorem fix_parse : parseS fixT = (([fixC], [], [fixM]), (0, 0)) := by
  unfold parseS
  rw [fix_lines, if_neg (fun h => h rfl), fix_reads, if_neg (fun h => h rfl)]
  show (if (printS [fixC] [] [fixM]).2 ≠ 0 ∨ (printS [fixC] [] [fixM]).1 ≠ fixT then _ else _) = _
  rw [fix_print, if_neg (fun h => h.elim (fun h => h rfl) (fun h => h rfl))]
theorem bad_parse : parseS [99, 108, 97, 115, 115, 32, 65, 10] = (([], [], []), (1, 1)) := by
  unfold parseS
  have h : linesL [99, 108, 97, 115, 115, 32, 65, 10] = ([[99, 108, 97, 115, 115, 32, 65]], 0, 0) := by decide +kernel
  have h2 : readsF [[99, 108, 97, 115, 115, 32, 65]] 0 ([], [], []) = (([], [], []), 1) := by rfl
  rw [h, if_neg (fun h => h rfl), h2, if_pos (show ¬ ((1 : Int) = 0) by decide)]
theorem fix_read : readS [109, 101, 116, 104, 111, 100, 32, 109, 32, 40, 73, 41, 86, 32, 36, 48] = (wMethod, ([109, 40, 73, 41, 86], [36, 48]), true) := by rfl
theorem fix_line : lineS wField ([102], [103]) = [102, 105, 101, 108, 100, 32, 102, 32, 103] := by decide +kernel
theorem no_line (x : List UInt8 × List UInt8) : lineS [120] x = [] := by
  unfold lineS
  rw [if_neg (by decide), if_neg (by decide)]
theorem fix_same : Q33.secateurref29_Same.f 2 [fixC] [] [fixM] [fixC] [] [fixM] = some true := by decide +kernel
end Go.Proofs.YtaokkkolbifdpaaGreatDoor.Hand
end
