import Derived.Test.YtmlbfepibfobaaaDoorMgRx2
section
-- Written by this session's program layer.py (the kit's print, turned), not by hand.
namespace Go.Proofs.YtmlbfepibfobaaaDoor.Q18
open Go.RowKit Go.Proofs.YtmlbfepibfobaaaDoorW.PrintWords Go.Proofs.YtmlbfepibfobaaaDoorW.PrintLast Go.Proofs.YtmlbfepibfobaaaDoorW.PrintMore Go.Proofs.YtmlbfepibfobaaaDoor.Hand
attribute [local go_sem] max2_int min2_int max_two min_two max_three min_three max_four min_four   -- for this text's walks alone
set_option linter.unusedVariables false
set_option linter.unusedSimpArgs false

attribute [local go_sem high] eqA31 eqA66
-- BY HAND: function 50 (rules_Right)

-- BY HAND: function 52 (rules_Parse)

-- BY HAND: function 54 (rules_Print)

-- BY HAND: function 66 (glob_Match)

/-! ### rules_Class: function 58 -/
def rules_Class.f (a0_0 : Bool) (a0_1 : Bool) (a0_2 : ByteArray) (a0_3 : ByteArray) (a0_4 : ByteArray) (a1 : ByteArray) : Option (Bool) := if a0_1 = true then (some false) else ((rules_Right.f a0_0 a0_1 a0_2 a0_3 a0_4).bind fun t102 => (if t102 = true then ((glob_Match.f a0_2 a1).bind fun t103 => (some t103)) else (some false)))
set_option maxHeartbeats 8000000 in
set_option maxRecDepth 100000 in
theorem rules_Class.calls (a0_0 : Bool) (a0_1 : Bool) (a0_2 : ByteArray) (a0_3 : ByteArray) (a0_4 : ByteArray) (a1 : ByteArray) (r : Bool) (w : World) (h : rules_Class.f a0_0 a0_1 a0_2 a0_3 a0_4 a1 = some r) :
    Calls Tryd.prog 58 #[.agg #[.bool a0_0, .bool a0_1, .string a0_2, .string a0_3, .string a0_4], .string a1] w fun e w' => e = .returned (.bool r) ∧ Below w.heap.size w w' := by
  have hu66 := Tryd.underlying66
  have HB := Aside0.mk (Below.refl w.heap.size w)
  have H : (if a0_1 = true then (some false) else ((rules_Right.f a0_0 a0_1 a0_2 a0_3 a0_4).bind fun t102 => (if t102 = true then ((glob_Match.f a0_2 a1).bind fun t103 => (some t103)) else (some false)))) = some r := h
  clear h
  by_cases c3 : a0_1 = true
  · subst c3
    have H1 : (some false) = some r := by rw [if_pos rfl] at H; exact H
    clear H
    have H := H1
    clear H1
    obtain rfl := Option.some.inj H
    go_enter Tryd.func58, Tryd.ntmps58
    go_wp2_with (first | ((with_reducible refine gate_dst (N := 2) rfl ?_); refine box_event ?hg (N := 2) ?hd (cs := #[.bool a0_0, .bool true, .string a0_2, .string a0_3, .string a0_4]) (t := 66) ?hr ?_; (case hd => rfl); (case hg => rfl); (case hr => first | (go_simp; done) | (go_simp; rfl)); intro gb101 hg w4 hbox hb; have n0_ := Aside0.mk (below_step (by repeat (first | (with_reducible first | exact HB.out | apply below_alloc | apply pw_below_drewN | apply below_drew1) | exact HB.out)) hb); have n1_ := Aside0.mk (hbox); have n2_ := Aside0.mk ((by rw [hg]; exact (below_size (by repeat (first | (with_reducible first | exact HB.out | apply below_alloc | apply pw_below_drewN | apply below_drew1) | exact HB.out))) : w.heap.size ≤ gb101)); have n3_ := Aside0.mk ((by rw [hg]; exact (below_size (by repeat (first | (with_reducible first | exact HB.out | apply below_alloc | apply pw_below_drewN | apply below_drew1) | exact HB.out))) : w.heap.size ≤ gb101)); clear HB; have HB := n0_; have BK101 := n1_; have GW101 := n2_; have GE101 := n3_; clear n0_ n1_ n2_ n3_; clear hb hbox hg; have hcz5_0 : w4.cell? ⟨gb101, 0, none⟩ = some (.bool a0_0) := (blk_cell BK101.out 0).trans rfl; have hcz5_1 : w4.cell? ⟨gb101, 1, none⟩ = some (.bool true) := (blk_cell BK101.out 1).trans rfl; have hcz5_2 : w4.cell? ⟨gb101, 2, none⟩ = some (.string a0_2) := (blk_cell BK101.out 2).trans rfl; have hcz5_3 : w4.cell? ⟨gb101, 3, none⟩ = some (.string a0_3) := (blk_cell BK101.out 3).trans rfl; have hcz5_4 : w4.cell? ⟨gb101, 4, none⟩ = some (.string a0_4) := (blk_cell BK101.out 4).trans rfl; have hfz5_0 := blk_frozen BK101.out 0; have hfz5_1 := blk_frozen BK101.out 1; have hfz5_2 := blk_frozen BK101.out 2; have hfz5_3 := blk_frozen BK101.out 3; have hfz5_4 := blk_frozen BK101.out 4))
    go_ret
    exact ⟨by first | rfl | (simp [errW_none, errW_some] <;> rfl) | (simp [*, errW_none, errW_some] <;> rfl), by repeat (first | (with_reducible first | exact HB.out | apply below_alloc | apply pw_below_drewN | apply below_drew1 | refine below_set ?_ GE101.out) | exact HB.out)⟩
  · replace c3 := Bool.eq_false_iff.mpr c3
    subst c3
    have H1 : ((rules_Right.f a0_0 false a0_2 a0_3 a0_4).bind fun t102 => (if t102 = true then ((glob_Match.f a0_2 a1).bind fun t103 => (some t103)) else (some false))) = some r := by rw [if_neg (show ¬ (false = true) by decide)] at H; exact H
    clear H
    have H := H1
    clear H1
    replace H := Option.bind_eq_some_iff.mp H
    obtain ⟨t102, A60, H⟩ := H
    replace H : (if t102 = true then ((glob_Match.f a0_2 a1).bind fun t103 => (some t103)) else (some false)) = some r := H
    have A6 := Aside0.mk A60
    clear A60
    by_cases c7 : t102 = true
    · subst c7
      have H1 : ((glob_Match.f a0_2 a1).bind fun t103 => (some t103)) = some r := by rw [if_pos rfl] at H; exact H
      clear H
      have H := H1
      clear H1
      replace H := Option.bind_eq_some_iff.mp H
      obtain ⟨t103, A80, H⟩ := H
      replace H : (some t103) = some r := H
      have A8 := Aside0.mk A80
      clear A80
      obtain rfl := Option.some.inj H
      go_enter Tryd.func58, Tryd.ntmps58
      go_wp2_with (first | ((with_reducible refine gate_dst (N := 2) rfl ?_); refine box_event ?hg (N := 2) ?hd (cs := #[.bool a0_0, .bool false, .string a0_2, .string a0_3, .string a0_4]) (t := 66) ?hr ?_; (case hd => rfl); (case hg => rfl); (case hr => first | (go_simp; done) | (go_simp; rfl)); intro gb101 hg w9 hbox hb; have n0_ := Aside0.mk (below_step (by repeat (first | (with_reducible first | exact HB.out | apply below_alloc | apply pw_below_drewN | apply below_drew1) | exact HB.out)) hb); have n1_ := Aside0.mk (hbox); have n2_ := Aside0.mk ((by rw [hg]; exact (below_size (by repeat (first | (with_reducible first | exact HB.out | apply below_alloc | apply pw_below_drewN | apply below_drew1) | exact HB.out))) : w.heap.size ≤ gb101)); have n3_ := Aside0.mk ((by rw [hg]; exact (below_size (by repeat (first | (with_reducible first | exact HB.out | apply below_alloc | apply pw_below_drewN | apply below_drew1) | exact HB.out))) : w.heap.size ≤ gb101)); clear HB; have HB := n0_; have BK101 := n1_; have GW101 := n2_; have GE101 := n3_; clear n0_ n1_ n2_ n3_; clear hb hbox hg; have hcz10_0 : w9.cell? ⟨gb101, 0, none⟩ = some (.bool a0_0) := (blk_cell BK101.out 0).trans rfl; have hcz10_1 : w9.cell? ⟨gb101, 1, none⟩ = some (.bool false) := (blk_cell BK101.out 1).trans rfl; have hcz10_2 : w9.cell? ⟨gb101, 2, none⟩ = some (.string a0_2) := (blk_cell BK101.out 2).trans rfl; have hcz10_3 : w9.cell? ⟨gb101, 3, none⟩ = some (.string a0_3) := (blk_cell BK101.out 3).trans rfl; have hcz10_4 : w9.cell? ⟨gb101, 4, none⟩ = some (.string a0_4) := (blk_cell BK101.out 4).trans rfl; have hfz10_0 := blk_frozen BK101.out 0; have hfz10_1 := blk_frozen BK101.out 1; have hfz10_2 := blk_frozen BK101.out 2; have hfz10_3 := blk_frozen BK101.out 3; have hfz10_4 := blk_frozen BK101.out 4) | (go_at_call 50; (with_reducible refine (rules_Right.calls a0_0 false a0_2 a0_3 a0_4 true _ A6.out).mono ?_); rintro e w11 ⟨rfl, hb⟩; have n0_ := Aside0.mk (blk_below (g := gb101) (o := .cells #[.bool a0_0, .bool false, .string a0_2, .string a0_3, .string a0_4] 66 (0, 0)) (by (with_reducible repeat (first | refine blk_drewN ?_ _ | refine blk_drew ?_ | refine blk_alloc ?_ _)); exact BK101.out) hb); have n1_ := Aside0.mk (below_step (by repeat (first | (with_reducible first | exact HB.out | apply below_alloc | apply pw_below_drewN | apply below_drew1 | refine below_set ?_ GE101.out) | exact HB.out)) hb); clear BK101; clear HB; have BK101 := n0_; have HB := n1_; clear n0_ n1_; (try clear hb); (try clear hb2); (try clear hk); (try clear hi); have hcz12_0 : w11.cell? ⟨gb101, 0, none⟩ = some (.bool a0_0) := (blk_cell BK101.out 0).trans rfl; have hcz12_1 : w11.cell? ⟨gb101, 1, none⟩ = some (.bool false) := (blk_cell BK101.out 1).trans rfl; have hcz12_2 : w11.cell? ⟨gb101, 2, none⟩ = some (.string a0_2) := (blk_cell BK101.out 2).trans rfl; have hcz12_3 : w11.cell? ⟨gb101, 3, none⟩ = some (.string a0_3) := (blk_cell BK101.out 3).trans rfl; have hcz12_4 : w11.cell? ⟨gb101, 4, none⟩ = some (.string a0_4) := (blk_cell BK101.out 4).trans rfl; have hfz12_0 := blk_frozen BK101.out 0; have hfz12_1 := blk_frozen BK101.out 1; have hfz12_2 := blk_frozen BK101.out 2; have hfz12_3 := blk_frozen BK101.out 3; have hfz12_4 := blk_frozen BK101.out 4) | (go_at_call 66; (with_reducible refine (glob_Match.calls a0_2 a1 t103 _ A8.out).mono ?_); rintro e w' ⟨rfl, ⟨nd, rfl⟩⟩))
      go_ret
      exact ⟨by first | rfl | (simp [errW_none, errW_some] <;> rfl) | (simp [*, errW_none, errW_some] <;> rfl), by repeat (first | (with_reducible first | exact HB.out | apply below_alloc | apply pw_below_drewN | apply below_drew1 | refine below_set ?_ GE101.out) | exact HB.out)⟩
    · replace c7 := Bool.eq_false_iff.mpr c7
      subst c7
      have H1 : (some false) = some r := by rw [if_neg (show ¬ (false = true) by decide)] at H; exact H
      clear H
      have H := H1
      clear H1
      obtain rfl := Option.some.inj H
      go_enter Tryd.func58, Tryd.ntmps58
      go_wp2_with (first | ((with_reducible refine gate_dst (N := 2) rfl ?_); refine box_event ?hg (N := 2) ?hd (cs := #[.bool a0_0, .bool false, .string a0_2, .string a0_3, .string a0_4]) (t := 66) ?hr ?_; (case hd => rfl); (case hg => rfl); (case hr => first | (go_simp; done) | (go_simp; rfl)); intro gb101 hg w13 hbox hb; have n0_ := Aside0.mk (below_step (by repeat (first | (with_reducible first | exact HB.out | apply below_alloc | apply pw_below_drewN | apply below_drew1) | exact HB.out)) hb); have n1_ := Aside0.mk (hbox); have n2_ := Aside0.mk ((by rw [hg]; exact (below_size (by repeat (first | (with_reducible first | exact HB.out | apply below_alloc | apply pw_below_drewN | apply below_drew1) | exact HB.out))) : w.heap.size ≤ gb101)); have n3_ := Aside0.mk ((by rw [hg]; exact (below_size (by repeat (first | (with_reducible first | exact HB.out | apply below_alloc | apply pw_below_drewN | apply below_drew1) | exact HB.out))) : w.heap.size ≤ gb101)); clear HB; have HB := n0_; have BK101 := n1_; have GW101 := n2_; have GE101 := n3_; clear n0_ n1_ n2_ n3_; clear hb hbox hg; have hcz14_0 : w13.cell? ⟨gb101, 0, none⟩ = some (.bool a0_0) := (blk_cell BK101.out 0).trans rfl; have hcz14_1 : w13.cell? ⟨gb101, 1, none⟩ = some (.bool false) := (blk_cell BK101.out 1).trans rfl; have hcz14_2 : w13.cell? ⟨gb101, 2, none⟩ = some (.string a0_2) := (blk_cell BK101.out 2).trans rfl; have hcz14_3 : w13.cell? ⟨gb101, 3, none⟩ = some (.string a0_3) := (blk_cell BK101.out 3).trans rfl; have hcz14_4 : w13.cell? ⟨gb101, 4, none⟩ = some (.string a0_4) := (blk_cell BK101.out 4).trans rfl; have hfz14_0 := blk_frozen BK101.out 0; have hfz14_1 := blk_frozen BK101.out 1; have hfz14_2 := blk_frozen BK101.out 2; have hfz14_3 := blk_frozen BK101.out 3; have hfz14_4 := blk_frozen BK101.out 4) | (go_at_call 50; (with_reducible refine (rules_Right.calls a0_0 false a0_2 a0_3 a0_4 false _ A6.out).mono ?_); rintro e w15 ⟨rfl, hb⟩; have n0_ := Aside0.mk (blk_below (g := gb101) (o := .cells #[.bool a0_0, .bool false, .string a0_2, .string a0_3, .string a0_4] 66 (0, 0)) (by (with_reducible repeat (first | refine blk_drewN ?_ _ | refine blk_drew ?_ | refine blk_alloc ?_ _)); exact BK101.out) hb); have n1_ := Aside0.mk (below_step (by repeat (first | (with_reducible first | exact HB.out | apply below_alloc | apply pw_below_drewN | apply below_drew1 | refine below_set ?_ GE101.out) | exact HB.out)) hb); clear BK101; clear HB; have BK101 := n0_; have HB := n1_; clear n0_ n1_; (try clear hb); (try clear hb2); (try clear hk); (try clear hi)))
      go_ret
      exact ⟨by first | rfl | (simp [errW_none, errW_some] <;> rfl) | (simp [*, errW_none, errW_some] <;> rfl), by repeat (first | (with_reducible first | exact HB.out | apply below_alloc | apply pw_below_drewN | apply below_drew1 | refine below_set ?_ GE101.out) | exact HB.out)⟩

/-! ### rules_Member: function 60 -/
def rules_Member.j0 : Nat → ByteArray → ByteArray → ByteArray → Bool → Bool → Bool → ByteArray → ByteArray → ByteArray → Option (Bool)
  | 0, _, _, _, _, _, _, _, _, _ => none
  | k + 1, x1, x2, x3, x20, x105000, x105001, x105002, x105003, x105004 => if x20 = true then (some false) else ((glob_Match.f x105002 x1).bind fun t106 => (if t106 = true then ((glob_Match.f x105003 x2).bind fun t107 => (if t107 = true then ((glob_Match.f x105004 x3).bind fun t108 => (some t108)) else (some false))) else (some false)))
def rules_Member.f (k : Nat) (a0_0 : Bool) (a0_1 : Bool) (a0_2 : ByteArray) (a0_3 : ByteArray) (a0_4 : ByteArray) (a1 : ByteArray) (a2 : ByteArray) (a3 : ByteArray) : Option (Bool) := if a0_1 = true then ((rules_Right.f a0_0 a0_1 a0_2 a0_3 a0_4).bind fun t105 => (if t105 = true then (rules_Member.j0 k a1 a2 a3 (a2.toList == ([60, 99, 108, 105, 110, 105, 116, 62] : List UInt8)) a0_0 a0_1 a0_2 a0_3 a0_4) else (rules_Member.j0 k a1 a2 a3 true a0_0 a0_1 a0_2 a0_3 a0_4))) else (rules_Member.j0 k a1 a2 a3 true a0_0 a0_1 a0_2 a0_3 a0_4)
theorem rules_Member.mono_l : ∀ k, (∀ y0 y1 y2 y3 y4 y5 y6 y7 y8, LeO (rules_Member.j0 k y0 y1 y2 y3 y4 y5 y6 y7 y8) (rules_Member.j0 (k + 1) y0 y1 y2 y3 y4 y5 y6 y7 y8))
  | 0 => fun _ _ _ _ _ _ _ _ _ r h => by simp [rules_Member.j0] at h
  | k + 1 => by
    have ih0 := rules_Member.mono_l k
    · intro y0 y1 y2 y3 y4 y5 y6 y7 y8
      unfold rules_Member.j0
      repeat' first
      | (with_reducible exact ih0 _ _ _ _ _ _ _ _ _)
      | (with_reducible exact LeO.refl _)
      | (with_reducible exact LeO.none _)
      | (with_reducible refine LeO.ite ?_ ?_)
      | (with_reducible refine LeO.bind ?_ (fun _ => ?_))
      | exact ih0 _ _ _ _ _ _ _ _ _
      | exact LeO.none _
      | refine LeO.ite ?_ ?_
      | refine LeO.bind ?_ (fun _ => ?_)
theorem rules_Member.mono : ∀ a0 a1 a2 a3 a4 a5 a6 a7 k, LeO (rules_Member.f k a0 a1 a2 a3 a4 a5 a6 a7) (rules_Member.f (k + 1) a0 a1 a2 a3 a4 a5 a6 a7) := by
  intro a0 a1 a2 a3 a4 a5 a6 a7 k
  have ih0 := rules_Member.mono_l k
  unfold rules_Member.f
  repeat' first
      | (with_reducible exact ih0 _ _ _ _ _ _ _ _ _)
      | (with_reducible exact LeO.refl _)
      | (with_reducible exact LeO.none _)
      | (with_reducible refine LeO.ite ?_ ?_)
      | (with_reducible refine LeO.bind ?_ (fun _ => ?_))
      | exact ih0 _ _ _ _ _ _ _ _ _
      | exact LeO.none _
      | refine LeO.ite ?_ ?_
      | refine LeO.bind ?_ (fun _ => ?_)
set_option maxHeartbeats 8000000 in
set_option maxRecDepth 100000 in
theorem rules_Member.calls (k : Nat) (a0_0 : Bool) (a0_1 : Bool) (a0_2 : ByteArray) (a0_3 : ByteArray) (a0_4 : ByteArray) (a1 : ByteArray) (a2 : ByteArray) (a3 : ByteArray) (r : Bool) (w : World) (h : rules_Member.f k a0_0 a0_1 a0_2 a0_3 a0_4 a1 a2 a3 = some r) :
    Calls Tryd.prog 60 #[.agg #[.bool a0_0, .bool a0_1, .string a0_2, .string a0_3, .string a0_4], .string a1, .string a2, .string a3] w fun e w' => e = .returned (.bool r) ∧ Below w.heap.size w w' := by
  have hu66 := Tryd.underlying66
  have HB := Aside0.mk (Below.refl w.heap.size w)
  have H : (if a0_1 = true then ((rules_Right.f a0_0 a0_1 a0_2 a0_3 a0_4).bind fun t105 => (if t105 = true then (rules_Member.j0 k a1 a2 a3 (a2.toList == ([60, 99, 108, 105, 110, 105, 116, 62] : List UInt8)) a0_0 a0_1 a0_2 a0_3 a0_4) else (rules_Member.j0 k a1 a2 a3 true a0_0 a0_1 a0_2 a0_3 a0_4))) else (rules_Member.j0 k a1 a2 a3 true a0_0 a0_1 a0_2 a0_3 a0_4)) = some r := h
  clear h
  have HC5 := Aside0.mk H
  clear H
  go_enter Tryd.func60, Tryd.ntmps60
  go_upto_region 1 with (first | ((with_reducible refine gate_dst (N := 4) rfl ?_); refine box_event ?hg (N := 4) ?hd (cs := #[.bool a0_0, .bool a0_1, .string a0_2, .string a0_3, .string a0_4]) (t := 66) ?hr ?_; (case hd => rfl); (case hg => rfl); (case hr => first | (go_simp; done) | (go_simp; rfl)); intro gb104 hg w6 hbox hb; have n0_ := Aside0.mk (below_step (by repeat (first | (with_reducible first | exact HB.out | apply below_alloc | apply pw_below_drewN | apply below_drew1) | exact HB.out)) hb); have n1_ := Aside0.mk (hbox); have n2_ := Aside0.mk ((by rw [hg]; exact (below_size (by repeat (first | (with_reducible first | exact HB.out | apply below_alloc | apply pw_below_drewN | apply below_drew1) | exact HB.out))) : w.heap.size ≤ gb104)); have n3_ := Aside0.mk ((by rw [hg]; exact (below_size (by repeat (first | (with_reducible first | exact HB.out | apply below_alloc | apply pw_below_drewN | apply below_drew1) | exact HB.out))) : w.heap.size ≤ gb104)); clear HB; have HB := n0_; have BK104 := n1_; have GW104 := n2_; have GE104 := n3_; clear n0_ n1_ n2_ n3_; clear hb hbox hg))
  (try simp only [Act.put, List.setIfInBounds_toArray, List.set_cons_zero, List.set_cons_succ])
  go_cut [20] (fun v20 wc => ∃ (kq : Nat) (x20_4 : Bool), v20 = .bool x20_4 ∧ Aside0 (rules_Member.j0 kq a1 a2 a3 x20_4 a0_0 a0_1 a0_2 a0_3 a0_4 = some r) ∧ Aside0 (kq ≤ k) ∧ Aside0 (wc.heap[gb104]? = some (.cells #[.bool a0_0, .bool a0_1, .string a0_2, .string a0_3, .string a0_4] 66 (0, 0))) ∧ Aside0 (Below w.heap.size w wc))
  case first =>
    have H := HC5.out
    clear HC5
    by_cases c7 : a0_1 = true
    · subst c7
      have H1 : ((rules_Right.f a0_0 true a0_2 a0_3 a0_4).bind fun t105 => (if t105 = true then (rules_Member.j0 k a1 a2 a3 (a2.toList == ([60, 99, 108, 105, 110, 105, 116, 62] : List UInt8)) a0_0 true a0_2 a0_3 a0_4) else (rules_Member.j0 k a1 a2 a3 true a0_0 true a0_2 a0_3 a0_4))) = some r := by rw [if_pos rfl] at H; exact H
      clear H
      have H := H1
      clear H1
      replace H := Option.bind_eq_some_iff.mp H
      obtain ⟨t105, A80, H⟩ := H
      replace H : (if t105 = true then (rules_Member.j0 k a1 a2 a3 (a2.toList == ([60, 99, 108, 105, 110, 105, 116, 62] : List UInt8)) a0_0 true a0_2 a0_3 a0_4) else (rules_Member.j0 k a1 a2 a3 true a0_0 true a0_2 a0_3 a0_4)) = some r := H
      have A8 := Aside0.mk A80
      clear A80
      by_cases c9 : t105 = true
      · subst c9
        have H1 : (rules_Member.j0 k a1 a2 a3 (a2.toList == ([60, 99, 108, 105, 110, 105, 116, 62] : List UInt8)) a0_0 true a0_2 a0_3 a0_4) = some r := by rw [if_pos rfl] at H; exact H
        clear H
        have H := H1
        clear H1
        have H' := Aside0.mk H
        clear H
        have hcz10_0 : w6.cell? ⟨gb104, 0, none⟩ = some (.bool a0_0) := (blk_cell BK104.out 0).trans rfl
        have hcz10_1 : w6.cell? ⟨gb104, 1, none⟩ = some (.bool true) := (blk_cell BK104.out 1).trans rfl
        have hcz10_2 : w6.cell? ⟨gb104, 2, none⟩ = some (.string a0_2) := (blk_cell BK104.out 2).trans rfl
        have hcz10_3 : w6.cell? ⟨gb104, 3, none⟩ = some (.string a0_3) := (blk_cell BK104.out 3).trans rfl
        have hcz10_4 : w6.cell? ⟨gb104, 4, none⟩ = some (.string a0_4) := (blk_cell BK104.out 4).trans rfl
        have hfz10_0 := blk_frozen BK104.out 0
        have hfz10_1 := blk_frozen BK104.out 1
        have hfz10_2 := blk_frozen BK104.out 2
        have hfz10_3 := blk_frozen BK104.out 3
        have hfz10_4 := blk_frozen BK104.out 4
        go_wp2_with (first | (go_at_call 50; (with_reducible refine (rules_Right.calls a0_0 true a0_2 a0_3 a0_4 true _ A8.out).mono ?_); rintro e w11 ⟨rfl, hb⟩; have n0_ := Aside0.mk (blk_below (g := gb104) (o := .cells #[.bool a0_0, .bool true, .string a0_2, .string a0_3, .string a0_4] 66 (0, 0)) (by (with_reducible repeat (first | refine blk_drewN ?_ _ | refine blk_drew ?_ | refine blk_alloc ?_ _)); exact BK104.out) hb); have n1_ := Aside0.mk (below_step (by repeat (first | (with_reducible first | exact HB.out | apply below_alloc | apply pw_below_drewN | apply below_drew1 | refine below_set ?_ GE104.out) | exact HB.out)) hb); clear BK104; clear HB; have BK104 := n0_; have HB := n1_; clear n0_ n1_; (try clear hb); (try clear hb2); (try clear hk); (try clear hi)))
        go_meet
        case rel => exact ⟨_, ((a2.toList == ([60, 99, 108, 105, 110, 105, 116, 62] : List UInt8))), (by first | rfl | (simp; done) | (simp [*]; done)), H', ⟨by first | omega | exact Nat.le_refl _⟩, ⟨by (with_reducible repeat (first | refine blk_drewN ?_ _ | refine blk_drew ?_ | refine blk_alloc ?_ _)); exact BK104.out⟩, ⟨by repeat (first | (with_reducible first | exact HB.out | apply below_alloc | apply pw_below_drewN | apply below_drew1 | refine below_set ?_ GE104.out) | exact HB.out)⟩⟩
      · replace c9 := Bool.eq_false_iff.mpr c9
        subst c9
        have H1 : (rules_Member.j0 k a1 a2 a3 true a0_0 true a0_2 a0_3 a0_4) = some r := by rw [if_neg (show ¬ (false = true) by decide)] at H; exact H
        clear H
        have H := H1
        clear H1
        have H' := Aside0.mk H
        clear H
        have hcz12_0 : w6.cell? ⟨gb104, 0, none⟩ = some (.bool a0_0) := (blk_cell BK104.out 0).trans rfl
        have hcz12_1 : w6.cell? ⟨gb104, 1, none⟩ = some (.bool true) := (blk_cell BK104.out 1).trans rfl
        have hcz12_2 : w6.cell? ⟨gb104, 2, none⟩ = some (.string a0_2) := (blk_cell BK104.out 2).trans rfl
        have hcz12_3 : w6.cell? ⟨gb104, 3, none⟩ = some (.string a0_3) := (blk_cell BK104.out 3).trans rfl
        have hcz12_4 : w6.cell? ⟨gb104, 4, none⟩ = some (.string a0_4) := (blk_cell BK104.out 4).trans rfl
        have hfz12_0 := blk_frozen BK104.out 0
        have hfz12_1 := blk_frozen BK104.out 1
        have hfz12_2 := blk_frozen BK104.out 2
        have hfz12_3 := blk_frozen BK104.out 3
        have hfz12_4 := blk_frozen BK104.out 4
        go_wp2_with (first | (go_at_call 50; (with_reducible refine (rules_Right.calls a0_0 true a0_2 a0_3 a0_4 false _ A8.out).mono ?_); rintro e w13 ⟨rfl, hb⟩; have n0_ := Aside0.mk (blk_below (g := gb104) (o := .cells #[.bool a0_0, .bool true, .string a0_2, .string a0_3, .string a0_4] 66 (0, 0)) (by (with_reducible repeat (first | refine blk_drewN ?_ _ | refine blk_drew ?_ | refine blk_alloc ?_ _)); exact BK104.out) hb); have n1_ := Aside0.mk (below_step (by repeat (first | (with_reducible first | exact HB.out | apply below_alloc | apply pw_below_drewN | apply below_drew1 | refine below_set ?_ GE104.out) | exact HB.out)) hb); clear BK104; clear HB; have BK104 := n0_; have HB := n1_; clear n0_ n1_; (try clear hb); (try clear hb2); (try clear hk); (try clear hi)))
        go_meet
        case rel => exact ⟨_, (true), (by first | rfl | (simp; done) | (simp [*]; done)), H', ⟨by first | omega | exact Nat.le_refl _⟩, ⟨by (with_reducible repeat (first | refine blk_drewN ?_ _ | refine blk_drew ?_ | refine blk_alloc ?_ _)); exact BK104.out⟩, ⟨by repeat (first | (with_reducible first | exact HB.out | apply below_alloc | apply pw_below_drewN | apply below_drew1 | refine below_set ?_ GE104.out) | exact HB.out)⟩⟩
    · replace c7 := Bool.eq_false_iff.mpr c7
      subst c7
      have H1 : (rules_Member.j0 k a1 a2 a3 true a0_0 false a0_2 a0_3 a0_4) = some r := by rw [if_neg (show ¬ (false = true) by decide)] at H; exact H
      clear H
      have H := H1
      clear H1
      have H' := Aside0.mk H
      clear H
      have hcz14_0 : w6.cell? ⟨gb104, 0, none⟩ = some (.bool a0_0) := (blk_cell BK104.out 0).trans rfl
      have hcz14_1 : w6.cell? ⟨gb104, 1, none⟩ = some (.bool false) := (blk_cell BK104.out 1).trans rfl
      have hcz14_2 : w6.cell? ⟨gb104, 2, none⟩ = some (.string a0_2) := (blk_cell BK104.out 2).trans rfl
      have hcz14_3 : w6.cell? ⟨gb104, 3, none⟩ = some (.string a0_3) := (blk_cell BK104.out 3).trans rfl
      have hcz14_4 : w6.cell? ⟨gb104, 4, none⟩ = some (.string a0_4) := (blk_cell BK104.out 4).trans rfl
      have hfz14_0 := blk_frozen BK104.out 0
      have hfz14_1 := blk_frozen BK104.out 1
      have hfz14_2 := blk_frozen BK104.out 2
      have hfz14_3 := blk_frozen BK104.out 3
      have hfz14_4 := blk_frozen BK104.out 4
      go_wp2
      go_meet
      case rel => exact ⟨_, (true), (by first | rfl | (simp; done) | (simp [*]; done)), H', ⟨by first | omega | exact Nat.le_refl _⟩, ⟨by (with_reducible repeat (first | refine blk_drewN ?_ _ | refine blk_drew ?_ | refine blk_alloc ?_ _)); exact BK104.out⟩, ⟨by repeat (first | (with_reducible first | exact HB.out | apply below_alloc | apply pw_below_drewN | apply below_drew1 | refine below_set ?_ GE104.out) | exact HB.out)⟩⟩
  case rest =>
    clear HC5
    try clear p2
    try clear c6
    try clear c7
    try clear c9
    try clear hcz10_0
    try clear hcz10_1
    try clear hcz10_2
    try clear hcz10_3
    try clear hcz10_4
    try clear hcz12_0
    try clear hcz12_1
    try clear hcz12_2
    try clear hcz12_3
    try clear hcz12_4
    try clear hcz14_0
    try clear hcz14_1
    try clear hcz14_2
    try clear hcz14_3
    try clear hcz14_4
    try clear hfz10_0
    try clear hfz10_1
    try clear hfz10_2
    try clear hfz10_3
    try clear hfz10_4
    try clear hfz12_0
    try clear hfz12_1
    try clear hfz12_2
    try clear hfz12_3
    try clear hfz12_4
    try clear hfz14_0
    try clear hfz14_1
    try clear hfz14_2
    try clear hfz14_3
    try clear hfz14_4
    obtain ⟨kq, x20_4, rfl, HA, HJ4, BK104, HB⟩ := hcut
    cases kq with
    | zero => exact absurd HA.out (by simp [rules_Member.j0])
    | succ kj4 =>
      have H := HA.out
      clear HA
      simp only [rules_Member.j0] at H
      by_cases c15 : x20_4 = true
      · subst c15
        have H1 : (some false) = some r := by rw [if_pos rfl] at H; exact H
        clear H
        have H := H1
        clear H1
        obtain rfl := Option.some.inj H
        go_wp2
        go_ret
        exact ⟨by first | rfl | (simp [errW_none, errW_some] <;> rfl) | (simp [*, errW_none, errW_some] <;> rfl), by repeat (first | (with_reducible first | exact HB.out | apply below_alloc | apply pw_below_drewN | apply below_drew1 | refine below_set ?_ GE104.out) | exact HB.out)⟩
      · replace c15 := Bool.eq_false_iff.mpr c15
        subst c15
        have H1 : ((glob_Match.f a0_2 a1).bind fun t106 => (if t106 = true then ((glob_Match.f a0_3 a2).bind fun t107 => (if t107 = true then ((glob_Match.f a0_4 a3).bind fun t108 => (some t108)) else (some false))) else (some false))) = some r := by rw [if_neg (show ¬ (false = true) by decide)] at H; exact H
        clear H
        have H := H1
        clear H1
        replace H := Option.bind_eq_some_iff.mp H
        obtain ⟨t106, A160, H⟩ := H
        replace H : (if t106 = true then ((glob_Match.f a0_3 a2).bind fun t107 => (if t107 = true then ((glob_Match.f a0_4 a3).bind fun t108 => (some t108)) else (some false))) else (some false)) = some r := H
        have A16 := Aside0.mk A160
        clear A160
        by_cases c17 : t106 = true
        · subst c17
          have H1 : ((glob_Match.f a0_3 a2).bind fun t107 => (if t107 = true then ((glob_Match.f a0_4 a3).bind fun t108 => (some t108)) else (some false))) = some r := by rw [if_pos rfl] at H; exact H
          clear H
          have H := H1
          clear H1
          replace H := Option.bind_eq_some_iff.mp H
          obtain ⟨t107, A180, H⟩ := H
          replace H : (if t107 = true then ((glob_Match.f a0_4 a3).bind fun t108 => (some t108)) else (some false)) = some r := H
          have A18 := Aside0.mk A180
          clear A180
          by_cases c19 : t107 = true
          · subst c19
            have H1 : ((glob_Match.f a0_4 a3).bind fun t108 => (some t108)) = some r := by rw [if_pos rfl] at H; exact H
            clear H
            have H := H1
            clear H1
            replace H := Option.bind_eq_some_iff.mp H
            obtain ⟨t108, A200, H⟩ := H
            replace H : (some t108) = some r := H
            have A20 := Aside0.mk A200
            clear A200
            obtain rfl := Option.some.inj H
            have hcz21_0 : wc.cell? ⟨gb104, 0, none⟩ = some (.bool a0_0) := (blk_cell BK104.out 0).trans rfl
            have hcz21_1 : wc.cell? ⟨gb104, 1, none⟩ = some (.bool a0_1) := (blk_cell BK104.out 1).trans rfl
            have hcz21_2 : wc.cell? ⟨gb104, 2, none⟩ = some (.string a0_2) := (blk_cell BK104.out 2).trans rfl
            have hcz21_3 : wc.cell? ⟨gb104, 3, none⟩ = some (.string a0_3) := (blk_cell BK104.out 3).trans rfl
            have hcz21_4 : wc.cell? ⟨gb104, 4, none⟩ = some (.string a0_4) := (blk_cell BK104.out 4).trans rfl
            have hfz21_0 := blk_frozen BK104.out 0
            have hfz21_1 := blk_frozen BK104.out 1
            have hfz21_2 := blk_frozen BK104.out 2
            have hfz21_3 := blk_frozen BK104.out 3
            have hfz21_4 := blk_frozen BK104.out 4
            go_wp2_with (first | ((with_reducible refine gate_callee (f := 66) rfl ?_); refine goesL_ (some 24) rfl rfl Tryd.func66 (by kernel_rfl) rfl #[.string a0_2, .string a1] rfl (by (try simp only [List.map_toArray, List.map_cons, List.map_nil]); first | done | rfl | (simp only [List.length_drop, List.length_take]; rfl)) ?_; (with_reducible refine (glob_Match.calls a0_2 a1 true _ A16.out).mono ?_); rintro e w' ⟨rfl, ⟨nd, rfl⟩⟩; refine ⟨_, rfl, ?_⟩) | (go_at_call 66; (with_reducible refine (glob_Match.calls a0_3 a2 true _ A18.out).mono ?_); rintro e w' ⟨rfl, ⟨nd, rfl⟩⟩) | (go_at_call 66; (with_reducible refine (glob_Match.calls a0_4 a3 t108 _ A20.out).mono ?_); rintro e w' ⟨rfl, ⟨nd, rfl⟩⟩))
            go_ret
            exact ⟨by first | rfl | (simp [errW_none, errW_some] <;> rfl) | (simp [*, errW_none, errW_some] <;> rfl), by repeat (first | (with_reducible first | exact HB.out | apply below_alloc | apply pw_below_drewN | apply below_drew1 | refine below_set ?_ GE104.out) | exact HB.out)⟩
          · replace c19 := Bool.eq_false_iff.mpr c19
            subst c19
            have H1 : (some false) = some r := by rw [if_neg (show ¬ (false = true) by decide)] at H; exact H
            clear H
            have H := H1
            clear H1
            obtain rfl := Option.some.inj H
            have hcz22_0 : wc.cell? ⟨gb104, 0, none⟩ = some (.bool a0_0) := (blk_cell BK104.out 0).trans rfl
            have hcz22_1 : wc.cell? ⟨gb104, 1, none⟩ = some (.bool a0_1) := (blk_cell BK104.out 1).trans rfl
            have hcz22_2 : wc.cell? ⟨gb104, 2, none⟩ = some (.string a0_2) := (blk_cell BK104.out 2).trans rfl
            have hcz22_3 : wc.cell? ⟨gb104, 3, none⟩ = some (.string a0_3) := (blk_cell BK104.out 3).trans rfl
            have hcz22_4 : wc.cell? ⟨gb104, 4, none⟩ = some (.string a0_4) := (blk_cell BK104.out 4).trans rfl
            have hfz22_0 := blk_frozen BK104.out 0
            have hfz22_1 := blk_frozen BK104.out 1
            have hfz22_2 := blk_frozen BK104.out 2
            have hfz22_3 := blk_frozen BK104.out 3
            have hfz22_4 := blk_frozen BK104.out 4
            go_wp2_with (first | ((with_reducible refine gate_callee (f := 66) rfl ?_); refine goesL_ (some 24) rfl rfl Tryd.func66 (by kernel_rfl) rfl #[.string a0_2, .string a1] rfl (by (try simp only [List.map_toArray, List.map_cons, List.map_nil]); first | done | rfl | (simp only [List.length_drop, List.length_take]; rfl)) ?_; (with_reducible refine (glob_Match.calls a0_2 a1 true _ A16.out).mono ?_); rintro e w' ⟨rfl, ⟨nd, rfl⟩⟩; refine ⟨_, rfl, ?_⟩) | (go_at_call 66; (with_reducible refine (glob_Match.calls a0_3 a2 false _ A18.out).mono ?_); rintro e w' ⟨rfl, ⟨nd, rfl⟩⟩))
            go_ret
            exact ⟨by first | rfl | (simp [errW_none, errW_some] <;> rfl) | (simp [*, errW_none, errW_some] <;> rfl), by repeat (first | (with_reducible first | exact HB.out | apply below_alloc | apply pw_below_drewN | apply below_drew1 | refine below_set ?_ GE104.out) | exact HB.out)⟩
        · replace c17 := Bool.eq_false_iff.mpr c17
          subst c17
          have H1 : (some false) = some r := by rw [if_neg (show ¬ (false = true) by decide)] at H; exact H
          clear H
          have H := H1
          clear H1
          obtain rfl := Option.some.inj H
          have hcz23_0 : wc.cell? ⟨gb104, 0, none⟩ = some (.bool a0_0) := (blk_cell BK104.out 0).trans rfl
          have hcz23_1 : wc.cell? ⟨gb104, 1, none⟩ = some (.bool a0_1) := (blk_cell BK104.out 1).trans rfl
          have hcz23_2 : wc.cell? ⟨gb104, 2, none⟩ = some (.string a0_2) := (blk_cell BK104.out 2).trans rfl
          have hcz23_3 : wc.cell? ⟨gb104, 3, none⟩ = some (.string a0_3) := (blk_cell BK104.out 3).trans rfl
          have hcz23_4 : wc.cell? ⟨gb104, 4, none⟩ = some (.string a0_4) := (blk_cell BK104.out 4).trans rfl
          have hfz23_0 := blk_frozen BK104.out 0
          have hfz23_1 := blk_frozen BK104.out 1
          have hfz23_2 := blk_frozen BK104.out 2
          have hfz23_3 := blk_frozen BK104.out 3
          have hfz23_4 := blk_frozen BK104.out 4
          go_wp2_with (first | ((with_reducible refine gate_callee (f := 66) rfl ?_); refine goesL_ (some 24) rfl rfl Tryd.func66 (by kernel_rfl) rfl #[.string a0_2, .string a1] rfl (by (try simp only [List.map_toArray, List.map_cons, List.map_nil]); first | done | rfl | (simp only [List.length_drop, List.length_take]; rfl)) ?_; (with_reducible refine (glob_Match.calls a0_2 a1 false _ A16.out).mono ?_); rintro e w' ⟨rfl, ⟨nd, rfl⟩⟩; refine ⟨_, rfl, ?_⟩))
          go_ret
          exact ⟨by first | rfl | (simp [errW_none, errW_some] <;> rfl) | (simp [*, errW_none, errW_some] <;> rfl), by repeat (first | (with_reducible first | exact HB.out | apply below_alloc | apply pw_below_drewN | apply below_drew1 | refine below_set ?_ GE104.out) | exact HB.out)⟩

/-! ### rules_Exact: function 65 -/
def rules_Exact.f (a0 : ByteArray) (a1 : Bool) : Option (Bool × Bool × ByteArray × ByteArray × ByteArray) := some (a1, false, a0, (⟨#[]⟩ : ByteArray), (⟨#[]⟩ : ByteArray))
set_option maxHeartbeats 8000000 in
set_option maxRecDepth 100000 in
theorem rules_Exact.calls (a0 : ByteArray) (a1 : Bool) (r1 : Bool) (r2 : Bool) (r3 : ByteArray) (r4 : ByteArray) (r5 : ByteArray) (w : World) (h : rules_Exact.f a0 a1 = some (r1, r2, r3, r4, r5)) :
    Calls Tryd.prog 65 #[.string a0, .bool a1] w fun e w' => e = .returned (.agg #[.bool r1, .bool r2, .string r3, .string r4, .string r5]) ∧ Below w.heap.size w w' := by
  have hu66 := Tryd.underlying66
  have HB := Aside0.mk (Below.refl w.heap.size w)
  have H : (some (a1, false, a0, (⟨#[]⟩ : ByteArray), (⟨#[]⟩ : ByteArray))) = some (r1, r2, r3, r4, r5) := h
  clear h
  simp only [Option.some.injEq, Prod.mk.injEq] at H
  obtain ⟨rfl, rfl, rfl, rfl, rfl⟩ := H
  go_enter Tryd.func65, Tryd.ntmps65
  go_wp2_with (first | ((with_reducible refine gate_dst (N := 4) rfl ?_); refine box_event ?hg (N := 4) ?hd (cs := #[.bool false, .bool false, .string (⟨#[]⟩ : ByteArray), .string (⟨#[]⟩ : ByteArray), .string (⟨#[]⟩ : ByteArray)]) (t := 66) ?hr ?_; (case hd => rfl); (case hg => rfl); (case hr => first | (go_simp; done) | (go_simp; rfl)); intro gb109 hg w3 hbox hb; have n0_ := Aside0.mk (below_step (by repeat (first | (with_reducible first | exact HB.out | apply below_alloc | apply pw_below_drewN | apply below_drew1) | exact HB.out)) hb); have n1_ := Aside0.mk (hbox); have n2_ := Aside0.mk ((by rw [hg]; exact (below_size (by repeat (first | (with_reducible first | exact HB.out | apply below_alloc | apply pw_below_drewN | apply below_drew1) | exact HB.out))) : w.heap.size ≤ gb109)); have n3_ := Aside0.mk ((by rw [hg]; exact (below_size (by repeat (first | (with_reducible first | exact HB.out | apply below_alloc | apply pw_below_drewN | apply below_drew1) | exact HB.out))) : w.heap.size ≤ gb109)); clear HB; have HB := n0_; have BK109 := n1_; have GW109 := n2_; have GE109 := n3_; clear n0_ n1_ n2_ n3_; clear hb hbox hg; have hcz4_0 : w3.cell? ⟨gb109, 0, none⟩ = some (.bool false) := (blk_cell BK109.out 0).trans rfl; have hcz4_1 : w3.cell? ⟨gb109, 1, none⟩ = some (.bool false) := (blk_cell BK109.out 1).trans rfl; have hcz4_2 : w3.cell? ⟨gb109, 2, none⟩ = some (.string (⟨#[]⟩ : ByteArray)) := (blk_cell BK109.out 2).trans rfl; have hcz4_3 : w3.cell? ⟨gb109, 3, none⟩ = some (.string (⟨#[]⟩ : ByteArray)) := (blk_cell BK109.out 3).trans rfl; have hcz4_4 : w3.cell? ⟨gb109, 4, none⟩ = some (.string (⟨#[]⟩ : ByteArray)) := (blk_cell BK109.out 4).trans rfl; have hfz4_0 := blk_frozen BK109.out 0; have hfz4_1 := blk_frozen BK109.out 1; have hfz4_2 := blk_frozen BK109.out 2; have hfz4_3 := blk_frozen BK109.out 3; have hfz4_4 := blk_frozen BK109.out 4))
  refine bodyPost_ret (results_cell_row rfl _ _ gb109 66 #[.bool a1, .bool false, .string a0, .string (⟨#[]⟩ : ByteArray), .string (⟨#[]⟩ : ByteArray)] (0, 0) _ rfl (by (with_reducible repeat (first | refine blk_drewN ?_ _ | refine blk_drew ?_ | refine blk_alloc ?_ _)); refine blk_put (cs := #[.bool a1, .bool false, .string a0, .string (⟨#[]⟩ : ByteArray), .string (⟨#[]⟩ : ByteArray)]) ?_ 4 _ rfl; (with_reducible repeat (first | refine blk_drewN ?_ _ | refine blk_drew ?_ | refine blk_alloc ?_ _)); refine blk_put (cs := #[.bool a1, .bool false, .string a0, .string (⟨#[]⟩ : ByteArray), .string (⟨#[]⟩ : ByteArray)]) ?_ 3 _ rfl; (with_reducible repeat (first | refine blk_drewN ?_ _ | refine blk_drew ?_ | refine blk_alloc ?_ _)); refine blk_put (cs := #[.bool a1, .bool false, .string (⟨#[]⟩ : ByteArray), .string (⟨#[]⟩ : ByteArray), .string (⟨#[]⟩ : ByteArray)]) ?_ 2 _ rfl; (with_reducible repeat (first | refine blk_drewN ?_ _ | refine blk_drew ?_ | refine blk_alloc ?_ _)); refine blk_put (cs := #[.bool a1, .bool false, .string (⟨#[]⟩ : ByteArray), .string (⟨#[]⟩ : ByteArray), .string (⟨#[]⟩ : ByteArray)]) ?_ 1 _ rfl; (with_reducible repeat (first | refine blk_drewN ?_ _ | refine blk_drew ?_ | refine blk_alloc ?_ _)); refine blk_put (cs := #[.bool false, .bool false, .string (⟨#[]⟩ : ByteArray), .string (⟨#[]⟩ : ByteArray), .string (⟨#[]⟩ : ByteArray)]) ?_ 0 _ rfl; (with_reducible repeat (first | refine blk_drewN ?_ _ | refine blk_drew ?_ | refine blk_alloc ?_ _)); exact BK109.out) Tryd.underlying66 rfl (by kernel_rfl)) rfl ?_
  exact ⟨by first | rfl | (simp [errW_none, errW_some] <;> rfl) | (simp [*, errW_none, errW_some] <;> rfl), by repeat (first | (with_reducible first | exact HB.out | apply below_alloc | apply pw_below_drewN | apply below_drew1 | refine below_set ?_ GE109.out) | exact HB.out)⟩

/-! ### secateurlaw22_live: function 48 -/
def secateurlaw22_live.f (k : Nat)  : Option (Bool) := (rules_Parse.f (⟨#[107, 101, 101, 112, 110, 97, 109, 101, 32, 109, 101, 109, 98, 101, 114, 32, 65, 32, 42, 32, 40, 41, 73, 10, 107, 101, 101, 112, 32, 99, 108, 97, 115, 115, 32, 66, 63, 10]⟩ : ByteArray)).bind fun bt110 => ((rules_Parse.f (⟨#[107, 101, 101, 112, 32, 97, 108, 108, 10]⟩ : ByteArray)).bind fun bt116 => ((rules_Print.f bt110.1).bind fun bt122 => (if (bt110.2.1 == 0 && (bt110.2.2 == 0)) = true then (if (bt110.1.length : Int) = 2 then (if (bt116.2.1 == 10 && (bt116.2.2 == 1)) = true then (if bt122.2 = 0 then (if bt122.1.toList = ([107, 101, 101, 112, 110, 97, 109, 101, 32, 109, 101, 109, 98, 101, 114, 32, 65, 32, 42, 32, 40, 41, 73, 10, 107, 101, 101, 112, 32, 99, 108, 97, 115, 115, 32, 66, 63, 10] : List UInt8) then (if 0 < (bt110.1.length : Int) then ((rules_Member.f k ((rd_T66 bt110.1 0).f0) ((rd_T66 bt110.1 0).f1) ((rd_T66 bt110.1 0).f2) ((rd_T66 bt110.1 0).f3) ((rd_T66 bt110.1 0).f4) (⟨#[65]⟩ : ByteArray) (⟨#[109]⟩ : ByteArray) (⟨#[40, 41, 73]⟩ : ByteArray)).bind fun t125 => (if t125 = true then ((rules_Member.f k ((rd_T66 bt110.1 0).f0) ((rd_T66 bt110.1 0).f1) ((rd_T66 bt110.1 0).f2) ((rd_T66 bt110.1 0).f3) ((rd_T66 bt110.1 0).f4) (⟨#[65]⟩ : ByteArray) (⟨#[60, 99, 108, 105, 110, 105, 116, 62]⟩ : ByteArray) (⟨#[40, 41, 73]⟩ : ByteArray)).bind fun t127 => (if t127 = true then (some false) else (if 1 < (bt110.1.length : Int) then ((rules_Class.f ((rd_T66 bt110.1 1).f0) ((rd_T66 bt110.1 1).f1) ((rd_T66 bt110.1 1).f2) ((rd_T66 bt110.1 1).f3) ((rd_T66 bt110.1 1).f4) (⟨#[66, 120]⟩ : ByteArray)).bind fun t129 => (if t129 = true then ((rules_Class.f ((rd_T66 bt110.1 0).f0) ((rd_T66 bt110.1 0).f1) ((rd_T66 bt110.1 0).f2) ((rd_T66 bt110.1 0).f3) ((rd_T66 bt110.1 0).f4) (⟨#[65]⟩ : ByteArray)).bind fun t131 => (if t131 = true then (some false) else ((rules_Right.f ((rd_T66 bt110.1 0).f0) ((rd_T66 bt110.1 0).f1) ((rd_T66 bt110.1 0).f2) ((rd_T66 bt110.1 0).f3) ((rd_T66 bt110.1 0).f4)).bind fun t133 => (if t133 = true then ((rules_Exact.f (⟨#[65]⟩ : ByteArray) true).bind fun bt134 => (some (bt134.1 && (!bt134.2.1 && (bt134.2.2.1.toList == ([65] : List UInt8) && (bt134.2.2.2.1.toList == ([] : List UInt8) && (bt134.2.2.2.2.toList == ([] : List UInt8)))))))) else (some false))))) else (some false))) else (none)))) else (some false))) else (none)) else (some false)) else (some false)) else (some false)) else (some false)) else (some false))))
theorem secateurlaw22_live.mono : ∀ k, LeO (secateurlaw22_live.f k ) (secateurlaw22_live.f (k + 1) ) := by
  intro  k
  unfold secateurlaw22_live.f
  repeat' first
      | (with_reducible exact rules_Member.mono _ _ _ _ _ _ _ _ _)
      | (with_reducible exact LeO.refl _)
      | (with_reducible exact LeO.none _)
      | (with_reducible refine LeO.ite ?_ ?_)
      | (with_reducible refine LeO.bind ?_ (fun _ => ?_))
      | exact rules_Member.mono _ _ _ _ _ _ _ _ _
      | exact LeO.none _
      | refine LeO.ite ?_ ?_
      | refine LeO.bind ?_ (fun _ => ?_)
set_option maxHeartbeats 8000000 in
set_option maxRecDepth 100000 in
theorem secateurlaw22_live.calls (k : Nat)  (r : Bool) (w : World) (hGMaxL : MaxL w) (h : secateurlaw22_live.f k  = some r) (hr : r = true) :
    Calls Tryd.prog 48 #[] w fun e w' => e = .returned (.bool r) ∧ Below w.heap.size w w' := by
  have hu31 := Tryd.underlying31
  have hu66 := Tryd.underlying66
  have HGMaxL := Aside0.mk hGMaxL
  clear hGMaxL
  have HRT := Aside0.mk hr
  clear hr
  have HB := Aside0.mk (Below.refl w.heap.size w)
  have H : ((rules_Parse.f (⟨#[107, 101, 101, 112, 110, 97, 109, 101, 32, 109, 101, 109, 98, 101, 114, 32, 65, 32, 42, 32, 40, 41, 73, 10, 107, 101, 101, 112, 32, 99, 108, 97, 115, 115, 32, 66, 63, 10]⟩ : ByteArray)).bind fun bt110 => ((rules_Parse.f (⟨#[107, 101, 101, 112, 32, 97, 108, 108, 10]⟩ : ByteArray)).bind fun bt116 => ((rules_Print.f bt110.1).bind fun bt122 => (if (bt110.2.1 == 0 && (bt110.2.2 == 0)) = true then (if (bt110.1.length : Int) = 2 then (if (bt116.2.1 == 10 && (bt116.2.2 == 1)) = true then (if bt122.2 = 0 then (if bt122.1.toList = ([107, 101, 101, 112, 110, 97, 109, 101, 32, 109, 101, 109, 98, 101, 114, 32, 65, 32, 42, 32, 40, 41, 73, 10, 107, 101, 101, 112, 32, 99, 108, 97, 115, 115, 32, 66, 63, 10] : List UInt8) then (if 0 < (bt110.1.length : Int) then ((rules_Member.f k ((rd_T66 bt110.1 0).f0) ((rd_T66 bt110.1 0).f1) ((rd_T66 bt110.1 0).f2) ((rd_T66 bt110.1 0).f3) ((rd_T66 bt110.1 0).f4) (⟨#[65]⟩ : ByteArray) (⟨#[109]⟩ : ByteArray) (⟨#[40, 41, 73]⟩ : ByteArray)).bind fun t125 => (if t125 = true then ((rules_Member.f k ((rd_T66 bt110.1 0).f0) ((rd_T66 bt110.1 0).f1) ((rd_T66 bt110.1 0).f2) ((rd_T66 bt110.1 0).f3) ((rd_T66 bt110.1 0).f4) (⟨#[65]⟩ : ByteArray) (⟨#[60, 99, 108, 105, 110, 105, 116, 62]⟩ : ByteArray) (⟨#[40, 41, 73]⟩ : ByteArray)).bind fun t127 => (if t127 = true then (some false) else (if 1 < (bt110.1.length : Int) then ((rules_Class.f ((rd_T66 bt110.1 1).f0) ((rd_T66 bt110.1 1).f1) ((rd_T66 bt110.1 1).f2) ((rd_T66 bt110.1 1).f3) ((rd_T66 bt110.1 1).f4) (⟨#[66, 120]⟩ : ByteArray)).bind fun t129 => (if t129 = true then ((rules_Class.f ((rd_T66 bt110.1 0).f0) ((rd_T66 bt110.1 0).f1) ((rd_T66 bt110.1 0).f2) ((rd_T66 bt110.1 0).f3) ((rd_T66 bt110.1 0).f4) (⟨#[65]⟩ : ByteArray)).bind fun t131 => (if t131 = true then (some false) else ((rules_Right.f ((rd_T66 bt110.1 0).f0) ((rd_T66 bt110.1 0).f1) ((rd_T66 bt110.1 0).f2) ((rd_T66 bt110.1 0).f3) ((rd_T66 bt110.1 0).f4)).bind fun t133 => (if t133 = true then ((rules_Exact.f (⟨#[65]⟩ : ByteArray) true).bind fun bt134 => (some (bt134.1 && (!bt134.2.1 && (bt134.2.2.1.toList == ([65] : List UInt8) && (bt134.2.2.2.1.toList == ([] : List UInt8) && (bt134.2.2.2.2.toList == ([] : List UInt8)))))))) else (some false))))) else (some false))) else (none)))) else (some false))) else (none)) else (some false)) else (some false)) else (some false)) else (some false)) else (some false))))) = some r := h
  clear h
  replace H := Option.bind_eq_some_iff.mp H
  obtain ⟨⟨t110, t113, t114⟩, A10, H⟩ := H
  replace H : ((rules_Parse.f (⟨#[107, 101, 101, 112, 32, 97, 108, 108, 10]⟩ : ByteArray)).bind fun bt116 => ((rules_Print.f t110).bind fun bt122 => (if (t113 == 0 && (t114 == 0)) = true then (if (t110.length : Int) = 2 then (if (bt116.2.1 == 10 && (bt116.2.2 == 1)) = true then (if bt122.2 = 0 then (if bt122.1.toList = ([107, 101, 101, 112, 110, 97, 109, 101, 32, 109, 101, 109, 98, 101, 114, 32, 65, 32, 42, 32, 40, 41, 73, 10, 107, 101, 101, 112, 32, 99, 108, 97, 115, 115, 32, 66, 63, 10] : List UInt8) then (if 0 < (t110.length : Int) then ((rules_Member.f k ((rd_T66 t110 0).f0) ((rd_T66 t110 0).f1) ((rd_T66 t110 0).f2) ((rd_T66 t110 0).f3) ((rd_T66 t110 0).f4) (⟨#[65]⟩ : ByteArray) (⟨#[109]⟩ : ByteArray) (⟨#[40, 41, 73]⟩ : ByteArray)).bind fun t125 => (if t125 = true then ((rules_Member.f k ((rd_T66 t110 0).f0) ((rd_T66 t110 0).f1) ((rd_T66 t110 0).f2) ((rd_T66 t110 0).f3) ((rd_T66 t110 0).f4) (⟨#[65]⟩ : ByteArray) (⟨#[60, 99, 108, 105, 110, 105, 116, 62]⟩ : ByteArray) (⟨#[40, 41, 73]⟩ : ByteArray)).bind fun t127 => (if t127 = true then (some false) else (if 1 < (t110.length : Int) then ((rules_Class.f ((rd_T66 t110 1).f0) ((rd_T66 t110 1).f1) ((rd_T66 t110 1).f2) ((rd_T66 t110 1).f3) ((rd_T66 t110 1).f4) (⟨#[66, 120]⟩ : ByteArray)).bind fun t129 => (if t129 = true then ((rules_Class.f ((rd_T66 t110 0).f0) ((rd_T66 t110 0).f1) ((rd_T66 t110 0).f2) ((rd_T66 t110 0).f3) ((rd_T66 t110 0).f4) (⟨#[65]⟩ : ByteArray)).bind fun t131 => (if t131 = true then (some false) else ((rules_Right.f ((rd_T66 t110 0).f0) ((rd_T66 t110 0).f1) ((rd_T66 t110 0).f2) ((rd_T66 t110 0).f3) ((rd_T66 t110 0).f4)).bind fun t133 => (if t133 = true then ((rules_Exact.f (⟨#[65]⟩ : ByteArray) true).bind fun bt134 => (some (bt134.1 && (!bt134.2.1 && (bt134.2.2.1.toList == ([65] : List UInt8) && (bt134.2.2.2.1.toList == ([] : List UInt8) && (bt134.2.2.2.2.toList == ([] : List UInt8)))))))) else (some false))))) else (some false))) else (none)))) else (some false))) else (none)) else (some false)) else (some false)) else (some false)) else (some false)) else (some false)))) = some r := H
  have A1 := Aside0.mk A10
  clear A10
  replace H := Option.bind_eq_some_iff.mp H
  obtain ⟨⟨t116, t119, t120⟩, A20, H⟩ := H
  replace H : ((rules_Print.f t110).bind fun bt122 => (if (t113 == 0 && (t114 == 0)) = true then (if (t110.length : Int) = 2 then (if (t119 == 10 && (t120 == 1)) = true then (if bt122.2 = 0 then (if bt122.1.toList = ([107, 101, 101, 112, 110, 97, 109, 101, 32, 109, 101, 109, 98, 101, 114, 32, 65, 32, 42, 32, 40, 41, 73, 10, 107, 101, 101, 112, 32, 99, 108, 97, 115, 115, 32, 66, 63, 10] : List UInt8) then (if 0 < (t110.length : Int) then ((rules_Member.f k ((rd_T66 t110 0).f0) ((rd_T66 t110 0).f1) ((rd_T66 t110 0).f2) ((rd_T66 t110 0).f3) ((rd_T66 t110 0).f4) (⟨#[65]⟩ : ByteArray) (⟨#[109]⟩ : ByteArray) (⟨#[40, 41, 73]⟩ : ByteArray)).bind fun t125 => (if t125 = true then ((rules_Member.f k ((rd_T66 t110 0).f0) ((rd_T66 t110 0).f1) ((rd_T66 t110 0).f2) ((rd_T66 t110 0).f3) ((rd_T66 t110 0).f4) (⟨#[65]⟩ : ByteArray) (⟨#[60, 99, 108, 105, 110, 105, 116, 62]⟩ : ByteArray) (⟨#[40, 41, 73]⟩ : ByteArray)).bind fun t127 => (if t127 = true then (some false) else (if 1 < (t110.length : Int) then ((rules_Class.f ((rd_T66 t110 1).f0) ((rd_T66 t110 1).f1) ((rd_T66 t110 1).f2) ((rd_T66 t110 1).f3) ((rd_T66 t110 1).f4) (⟨#[66, 120]⟩ : ByteArray)).bind fun t129 => (if t129 = true then ((rules_Class.f ((rd_T66 t110 0).f0) ((rd_T66 t110 0).f1) ((rd_T66 t110 0).f2) ((rd_T66 t110 0).f3) ((rd_T66 t110 0).f4) (⟨#[65]⟩ : ByteArray)).bind fun t131 => (if t131 = true then (some false) else ((rules_Right.f ((rd_T66 t110 0).f0) ((rd_T66 t110 0).f1) ((rd_T66 t110 0).f2) ((rd_T66 t110 0).f3) ((rd_T66 t110 0).f4)).bind fun t133 => (if t133 = true then ((rules_Exact.f (⟨#[65]⟩ : ByteArray) true).bind fun bt134 => (some (bt134.1 && (!bt134.2.1 && (bt134.2.2.1.toList == ([65] : List UInt8) && (bt134.2.2.2.1.toList == ([] : List UInt8) && (bt134.2.2.2.2.toList == ([] : List UInt8)))))))) else (some false))))) else (some false))) else (none)))) else (some false))) else (none)) else (some false)) else (some false)) else (some false)) else (some false)) else (some false))) = some r := H
  have A2 := Aside0.mk A20
  clear A20
  replace H := Option.bind_eq_some_iff.mp H
  obtain ⟨⟨t122, t123⟩, A30, H⟩ := H
  replace H : (if (t113 == 0 && (t114 == 0)) = true then (if (t110.length : Int) = 2 then (if (t119 == 10 && (t120 == 1)) = true then (if t123 = 0 then (if t122.toList = ([107, 101, 101, 112, 110, 97, 109, 101, 32, 109, 101, 109, 98, 101, 114, 32, 65, 32, 42, 32, 40, 41, 73, 10, 107, 101, 101, 112, 32, 99, 108, 97, 115, 115, 32, 66, 63, 10] : List UInt8) then (if 0 < (t110.length : Int) then ((rules_Member.f k ((rd_T66 t110 0).f0) ((rd_T66 t110 0).f1) ((rd_T66 t110 0).f2) ((rd_T66 t110 0).f3) ((rd_T66 t110 0).f4) (⟨#[65]⟩ : ByteArray) (⟨#[109]⟩ : ByteArray) (⟨#[40, 41, 73]⟩ : ByteArray)).bind fun t125 => (if t125 = true then ((rules_Member.f k ((rd_T66 t110 0).f0) ((rd_T66 t110 0).f1) ((rd_T66 t110 0).f2) ((rd_T66 t110 0).f3) ((rd_T66 t110 0).f4) (⟨#[65]⟩ : ByteArray) (⟨#[60, 99, 108, 105, 110, 105, 116, 62]⟩ : ByteArray) (⟨#[40, 41, 73]⟩ : ByteArray)).bind fun t127 => (if t127 = true then (some false) else (if 1 < (t110.length : Int) then ((rules_Class.f ((rd_T66 t110 1).f0) ((rd_T66 t110 1).f1) ((rd_T66 t110 1).f2) ((rd_T66 t110 1).f3) ((rd_T66 t110 1).f4) (⟨#[66, 120]⟩ : ByteArray)).bind fun t129 => (if t129 = true then ((rules_Class.f ((rd_T66 t110 0).f0) ((rd_T66 t110 0).f1) ((rd_T66 t110 0).f2) ((rd_T66 t110 0).f3) ((rd_T66 t110 0).f4) (⟨#[65]⟩ : ByteArray)).bind fun t131 => (if t131 = true then (some false) else ((rules_Right.f ((rd_T66 t110 0).f0) ((rd_T66 t110 0).f1) ((rd_T66 t110 0).f2) ((rd_T66 t110 0).f3) ((rd_T66 t110 0).f4)).bind fun t133 => (if t133 = true then ((rules_Exact.f (⟨#[65]⟩ : ByteArray) true).bind fun bt134 => (some (bt134.1 && (!bt134.2.1 && (bt134.2.2.1.toList == ([65] : List UInt8) && (bt134.2.2.2.1.toList == ([] : List UInt8) && (bt134.2.2.2.2.toList == ([] : List UInt8)))))))) else (some false))))) else (some false))) else (none)))) else (some false))) else (none)) else (some false)) else (some false)) else (some false)) else (some false)) else (some false)) = some r := H
  have A3 := Aside0.mk A30
  clear A30
  by_cases c4 : (t113 == 0 && (t114 == 0)) = true
  · rw [if_pos c4] at H
    have c4b0 : (t113 == 0 && (t114 == 0)) = true := c4
    (try (have c4b1 : decide (t113 = 0 && (t114 == 0)) = true := by simpa using c4))
    (try (have c4b2 : (t113 == 0 && (t114 == 0)) = true := by simpa using c4))
    clear c4
    by_cases c5 : (t110.length : Int) = 2
    · rw [if_pos c5] at H
      have c5b0 : ((t110.length : Int) == 2) = true := beq_iff_eq.mpr c5
      have c5b1 : ((t110.length : Int) != 2) = false := bne_eq_false_iff_eq.mpr c5
      clear c5
      by_cases c6 : (t119 == 10 && (t120 == 1)) = true
      · rw [if_pos c6] at H
        have c6b0 : (t119 == 10 && (t120 == 1)) = true := c6
        (try (have c6b1 : decide (t119 = 10 && (t120 == 1)) = true := by simpa using c6))
        (try (have c6b2 : (t119 == 10 && (t120 == 1)) = true := by simpa using c6))
        clear c6
        by_cases c7 : t123 = 0
        · rw [if_pos c7] at H
          have c7b0 : (t123 == 0) = true := beq_iff_eq.mpr c7
          have c7b1 : (t123 != 0) = false := bne_eq_false_iff_eq.mpr c7
          clear c7
          by_cases c8 : t122.toList = ([107, 101, 101, 112, 110, 97, 109, 101, 32, 109, 101, 109, 98, 101, 114, 32, 65, 32, 42, 32, 40, 41, 73, 10, 107, 101, 101, 112, 32, 99, 108, 97, 115, 115, 32, 66, 63, 10] : List UInt8)
          · rw [if_pos c8] at H
            have c8b0 : (t122.toList == ([107, 101, 101, 112, 110, 97, 109, 101, 32, 109, 101, 109, 98, 101, 114, 32, 65, 32, 42, 32, 40, 41, 73, 10, 107, 101, 101, 112, 32, 99, 108, 97, 115, 115, 32, 66, 63, 10] : List UInt8)) = true := beq_iff_eq.mpr c8
            have c8b1 : (t122.toList != ([107, 101, 101, 112, 110, 97, 109, 101, 32, 109, 101, 109, 98, 101, 114, 32, 65, 32, 42, 32, 40, 41, 73, 10, 107, 101, 101, 112, 32, 99, 108, 97, 115, 115, 32, 66, 63, 10] : List UInt8)) = false := bne_eq_false_iff_eq.mpr c8
            clear c8
            by_cases c9 : 0 < (t110.length : Int)
            · rw [if_pos c9] at H
              have c9b0 : decide (0 < (t110.length : Int)) = true := decide_eq_true c9
              have c9b1 : decide (0 < t110.length) = true := decide_eq_true (by omega)
              clear c9
              replace H := Option.bind_eq_some_iff.mp H
              obtain ⟨t125, A100, H⟩ := H
              replace H : (if t125 = true then ((rules_Member.f k ((rd_T66 t110 0).f0) ((rd_T66 t110 0).f1) ((rd_T66 t110 0).f2) ((rd_T66 t110 0).f3) ((rd_T66 t110 0).f4) (⟨#[65]⟩ : ByteArray) (⟨#[60, 99, 108, 105, 110, 105, 116, 62]⟩ : ByteArray) (⟨#[40, 41, 73]⟩ : ByteArray)).bind fun t127 => (if t127 = true then (some false) else (if 1 < (t110.length : Int) then ((rules_Class.f ((rd_T66 t110 1).f0) ((rd_T66 t110 1).f1) ((rd_T66 t110 1).f2) ((rd_T66 t110 1).f3) ((rd_T66 t110 1).f4) (⟨#[66, 120]⟩ : ByteArray)).bind fun t129 => (if t129 = true then ((rules_Class.f ((rd_T66 t110 0).f0) ((rd_T66 t110 0).f1) ((rd_T66 t110 0).f2) ((rd_T66 t110 0).f3) ((rd_T66 t110 0).f4) (⟨#[65]⟩ : ByteArray)).bind fun t131 => (if t131 = true then (some false) else ((rules_Right.f ((rd_T66 t110 0).f0) ((rd_T66 t110 0).f1) ((rd_T66 t110 0).f2) ((rd_T66 t110 0).f3) ((rd_T66 t110 0).f4)).bind fun t133 => (if t133 = true then ((rules_Exact.f (⟨#[65]⟩ : ByteArray) true).bind fun bt134 => (some (bt134.1 && (!bt134.2.1 && (bt134.2.2.1.toList == ([65] : List UInt8) && (bt134.2.2.2.1.toList == ([] : List UInt8) && (bt134.2.2.2.2.toList == ([] : List UInt8)))))))) else (some false))))) else (some false))) else (none)))) else (some false)) = some r := H
              have A10 := Aside0.mk A100
              clear A100
              by_cases c11 : t125 = true
              · subst c11
                have H1 : ((rules_Member.f k ((rd_T66 t110 0).f0) ((rd_T66 t110 0).f1) ((rd_T66 t110 0).f2) ((rd_T66 t110 0).f3) ((rd_T66 t110 0).f4) (⟨#[65]⟩ : ByteArray) (⟨#[60, 99, 108, 105, 110, 105, 116, 62]⟩ : ByteArray) (⟨#[40, 41, 73]⟩ : ByteArray)).bind fun t127 => (if t127 = true then (some false) else (if 1 < (t110.length : Int) then ((rules_Class.f ((rd_T66 t110 1).f0) ((rd_T66 t110 1).f1) ((rd_T66 t110 1).f2) ((rd_T66 t110 1).f3) ((rd_T66 t110 1).f4) (⟨#[66, 120]⟩ : ByteArray)).bind fun t129 => (if t129 = true then ((rules_Class.f ((rd_T66 t110 0).f0) ((rd_T66 t110 0).f1) ((rd_T66 t110 0).f2) ((rd_T66 t110 0).f3) ((rd_T66 t110 0).f4) (⟨#[65]⟩ : ByteArray)).bind fun t131 => (if t131 = true then (some false) else ((rules_Right.f ((rd_T66 t110 0).f0) ((rd_T66 t110 0).f1) ((rd_T66 t110 0).f2) ((rd_T66 t110 0).f3) ((rd_T66 t110 0).f4)).bind fun t133 => (if t133 = true then ((rules_Exact.f (⟨#[65]⟩ : ByteArray) true).bind fun bt134 => (some (bt134.1 && (!bt134.2.1 && (bt134.2.2.1.toList == ([65] : List UInt8) && (bt134.2.2.2.1.toList == ([] : List UInt8) && (bt134.2.2.2.2.toList == ([] : List UInt8)))))))) else (some false))))) else (some false))) else (none)))) = some r := by rw [if_pos rfl] at H; exact H
                clear H
                have H := H1
                clear H1
                replace H := Option.bind_eq_some_iff.mp H
                obtain ⟨t127, A120, H⟩ := H
                replace H : (if t127 = true then (some false) else (if 1 < (t110.length : Int) then ((rules_Class.f ((rd_T66 t110 1).f0) ((rd_T66 t110 1).f1) ((rd_T66 t110 1).f2) ((rd_T66 t110 1).f3) ((rd_T66 t110 1).f4) (⟨#[66, 120]⟩ : ByteArray)).bind fun t129 => (if t129 = true then ((rules_Class.f ((rd_T66 t110 0).f0) ((rd_T66 t110 0).f1) ((rd_T66 t110 0).f2) ((rd_T66 t110 0).f3) ((rd_T66 t110 0).f4) (⟨#[65]⟩ : ByteArray)).bind fun t131 => (if t131 = true then (some false) else ((rules_Right.f ((rd_T66 t110 0).f0) ((rd_T66 t110 0).f1) ((rd_T66 t110 0).f2) ((rd_T66 t110 0).f3) ((rd_T66 t110 0).f4)).bind fun t133 => (if t133 = true then ((rules_Exact.f (⟨#[65]⟩ : ByteArray) true).bind fun bt134 => (some (bt134.1 && (!bt134.2.1 && (bt134.2.2.1.toList == ([65] : List UInt8) && (bt134.2.2.2.1.toList == ([] : List UInt8) && (bt134.2.2.2.2.toList == ([] : List UInt8)))))))) else (some false))))) else (some false))) else (none))) = some r := H
                have A12 := Aside0.mk A120
                clear A120
                by_cases c13 : t127 = true
                · subst c13
                  have H1 : (some false) = some r := by rw [if_pos rfl] at H; exact H
                  exact absurd ((Option.some.inj H1).trans HRT.out) (by decide)
                · replace c13 := Bool.eq_false_iff.mpr c13
                  subst c13
                  have H1 : (if 1 < (t110.length : Int) then ((rules_Class.f ((rd_T66 t110 1).f0) ((rd_T66 t110 1).f1) ((rd_T66 t110 1).f2) ((rd_T66 t110 1).f3) ((rd_T66 t110 1).f4) (⟨#[66, 120]⟩ : ByteArray)).bind fun t129 => (if t129 = true then ((rules_Class.f ((rd_T66 t110 0).f0) ((rd_T66 t110 0).f1) ((rd_T66 t110 0).f2) ((rd_T66 t110 0).f3) ((rd_T66 t110 0).f4) (⟨#[65]⟩ : ByteArray)).bind fun t131 => (if t131 = true then (some false) else ((rules_Right.f ((rd_T66 t110 0).f0) ((rd_T66 t110 0).f1) ((rd_T66 t110 0).f2) ((rd_T66 t110 0).f3) ((rd_T66 t110 0).f4)).bind fun t133 => (if t133 = true then ((rules_Exact.f (⟨#[65]⟩ : ByteArray) true).bind fun bt134 => (some (bt134.1 && (!bt134.2.1 && (bt134.2.2.1.toList == ([65] : List UInt8) && (bt134.2.2.2.1.toList == ([] : List UInt8) && (bt134.2.2.2.2.toList == ([] : List UInt8)))))))) else (some false))))) else (some false))) else (none)) = some r := by rw [if_neg (show ¬ (false = true) by decide)] at H; exact H
                  clear H
                  have H := H1
                  clear H1
                  by_cases c27 : 1 < (t110.length : Int)
                  · rw [if_pos c27] at H
                    have c27b0 : decide (1 < (t110.length : Int)) = true := decide_eq_true c27
                    have c27b1 : decide (1 < t110.length) = true := decide_eq_true (by omega)
                    clear c27
                    replace H := Option.bind_eq_some_iff.mp H
                    obtain ⟨t129, A280, H⟩ := H
                    replace H : (if t129 = true then ((rules_Class.f ((rd_T66 t110 0).f0) ((rd_T66 t110 0).f1) ((rd_T66 t110 0).f2) ((rd_T66 t110 0).f3) ((rd_T66 t110 0).f4) (⟨#[65]⟩ : ByteArray)).bind fun t131 => (if t131 = true then (some false) else ((rules_Right.f ((rd_T66 t110 0).f0) ((rd_T66 t110 0).f1) ((rd_T66 t110 0).f2) ((rd_T66 t110 0).f3) ((rd_T66 t110 0).f4)).bind fun t133 => (if t133 = true then ((rules_Exact.f (⟨#[65]⟩ : ByteArray) true).bind fun bt134 => (some (bt134.1 && (!bt134.2.1 && (bt134.2.2.1.toList == ([65] : List UInt8) && (bt134.2.2.2.1.toList == ([] : List UInt8) && (bt134.2.2.2.2.toList == ([] : List UInt8)))))))) else (some false))))) else (some false)) = some r := H
                    have A28 := Aside0.mk A280
                    clear A280
                    by_cases c29 : t129 = true
                    · subst c29
                      have H1 : ((rules_Class.f ((rd_T66 t110 0).f0) ((rd_T66 t110 0).f1) ((rd_T66 t110 0).f2) ((rd_T66 t110 0).f3) ((rd_T66 t110 0).f4) (⟨#[65]⟩ : ByteArray)).bind fun t131 => (if t131 = true then (some false) else ((rules_Right.f ((rd_T66 t110 0).f0) ((rd_T66 t110 0).f1) ((rd_T66 t110 0).f2) ((rd_T66 t110 0).f3) ((rd_T66 t110 0).f4)).bind fun t133 => (if t133 = true then ((rules_Exact.f (⟨#[65]⟩ : ByteArray) true).bind fun bt134 => (some (bt134.1 && (!bt134.2.1 && (bt134.2.2.1.toList == ([65] : List UInt8) && (bt134.2.2.2.1.toList == ([] : List UInt8) && (bt134.2.2.2.2.toList == ([] : List UInt8)))))))) else (some false))))) = some r := by rw [if_pos rfl] at H; exact H
                      clear H
                      have H := H1
                      clear H1
                      replace H := Option.bind_eq_some_iff.mp H
                      obtain ⟨t131, A300, H⟩ := H
                      replace H : (if t131 = true then (some false) else ((rules_Right.f ((rd_T66 t110 0).f0) ((rd_T66 t110 0).f1) ((rd_T66 t110 0).f2) ((rd_T66 t110 0).f3) ((rd_T66 t110 0).f4)).bind fun t133 => (if t133 = true then ((rules_Exact.f (⟨#[65]⟩ : ByteArray) true).bind fun bt134 => (some (bt134.1 && (!bt134.2.1 && (bt134.2.2.1.toList == ([65] : List UInt8) && (bt134.2.2.2.1.toList == ([] : List UInt8) && (bt134.2.2.2.2.toList == ([] : List UInt8)))))))) else (some false)))) = some r := H
                      have A30 := Aside0.mk A300
                      clear A300
                      by_cases c31 : t131 = true
                      · subst c31
                        have H1 : (some false) = some r := by rw [if_pos rfl] at H; exact H
                        exact absurd ((Option.some.inj H1).trans HRT.out) (by decide)
                      · replace c31 := Bool.eq_false_iff.mpr c31
                        subst c31
                        have H1 : ((rules_Right.f ((rd_T66 t110 0).f0) ((rd_T66 t110 0).f1) ((rd_T66 t110 0).f2) ((rd_T66 t110 0).f3) ((rd_T66 t110 0).f4)).bind fun t133 => (if t133 = true then ((rules_Exact.f (⟨#[65]⟩ : ByteArray) true).bind fun bt134 => (some (bt134.1 && (!bt134.2.1 && (bt134.2.2.1.toList == ([65] : List UInt8) && (bt134.2.2.2.1.toList == ([] : List UInt8) && (bt134.2.2.2.2.toList == ([] : List UInt8)))))))) else (some false))) = some r := by rw [if_neg (show ¬ (false = true) by decide)] at H; exact H
                        clear H
                        have H := H1
                        clear H1
                        replace H := Option.bind_eq_some_iff.mp H
                        obtain ⟨t133, A470, H⟩ := H
                        replace H : (if t133 = true then ((rules_Exact.f (⟨#[65]⟩ : ByteArray) true).bind fun bt134 => (some (bt134.1 && (!bt134.2.1 && (bt134.2.2.1.toList == ([65] : List UInt8) && (bt134.2.2.2.1.toList == ([] : List UInt8) && (bt134.2.2.2.2.toList == ([] : List UInt8)))))))) else (some false)) = some r := H
                        have A47 := Aside0.mk A470
                        clear A470
                        by_cases c48 : t133 = true
                        · subst c48
                          have H1 : ((rules_Exact.f (⟨#[65]⟩ : ByteArray) true).bind fun bt134 => (some (bt134.1 && (!bt134.2.1 && (bt134.2.2.1.toList == ([65] : List UInt8) && (bt134.2.2.2.1.toList == ([] : List UInt8) && (bt134.2.2.2.2.toList == ([] : List UInt8)))))))) = some r := by rw [if_pos rfl] at H; exact H
                          clear H
                          have H := H1
                          clear H1
                          replace H := Option.bind_eq_some_iff.mp H
                          obtain ⟨⟨t134, t135, t136, t137, t138⟩, A490, H⟩ := H
                          replace H : (some (t134 && (!t135 && (t136.toList == ([65] : List UInt8) && (t137.toList == ([] : List UInt8) && (t138.toList == ([] : List UInt8))))))) = some r := H
                          have A49 := Aside0.mk A490
                          clear A490
                          obtain rfl := Option.some.inj H
                          go_enter Tryd.func48, Tryd.ntmps48
                          go_wp2_with (first | ((with_reducible refine gate_callee (f := 52) rfl ?_); refine goesL_ (some 8) rfl rfl Tryd.func52 (by kernel_rfl) rfl #[.string (⟨#[107, 101, 101, 112, 110, 97, 109, 101, 32, 109, 101, 109, 98, 101, 114, 32, 65, 32, 42, 32, 40, 41, 73, 10, 107, 101, 101, 112, 32, 99, 108, 97, 115, 115, 32, 66, 63, 10]⟩ : ByteArray)] rfl (by (try simp only [List.map_toArray, List.map_cons, List.map_nil]); first | done | rfl | (simp only [List.length_drop, List.length_take]; rfl)) ?_; (with_reducible refine (rules_Parse.calls (⟨#[107, 101, 101, 112, 110, 97, 109, 101, 32, 109, 101, 109, 98, 101, 114, 32, 65, 32, 42, 32, 40, 41, 73, 10, 107, 101, 101, 112, 32, 99, 108, 97, 115, 115, 32, 66, 63, 10]⟩ : ByteArray) t110 t113 t114 _ ?side1 A1.out).mono ?_); (case side1 => exact MaxL.below HGMaxL.out (by repeat (first | (with_reducible first | exact HB.out | apply below_alloc | apply pw_below_drewN | apply below_drew1) | exact HB.out))); rintro e w50 ⟨v111, rfl, ho0, hb⟩; refine ⟨_, rfl, ?_⟩; have n0_ := Aside0.mk (Kd.R_lower ho0 (below_size (by repeat (first | (with_reducible first | exact HB.out | apply below_alloc | apply pw_below_drewN | apply below_drew1) | exact HB.out)))); have n1_ := Aside0.mk (below_step (by repeat (first | (with_reducible first | exact HB.out | apply below_alloc | apply pw_below_drewN | apply below_drew1) | exact HB.out)) hb); clear HB; have HO112 := n0_; have HB := n1_; clear n0_ n1_; (try clear hb); (try clear hb2); (try clear hk); (try clear hi); (try clear ho0)) | ((with_reducible refine gate_dst (N := 2) rfl ?_); (try (refine gate_guard (by rfl) ?_; dsimp only)); refine box_event ?hg (N := 2) ?hd (cs := #[.int .i64 0, .int .i64 0]) (t := 31) ?hr ?_; (case hd => rfl); (case hg => rfl); (case hr => first | (go_simp; done) | (go_simp; rfl)); intro gb115 hg w51 hbox hb; have n0_ := Aside0.mk (Kd.R_below (by (with_reducible repeat (first | apply Kd.R_alloc | apply Kd.R_drewN | apply Kd.R_drew)); exact HO112.out) hb); have n1_ := Aside0.mk (below_step (by repeat (first | (with_reducible first | exact HB.out | apply below_alloc | apply pw_below_drewN | apply below_drew1) | exact HB.out)) hb); have n2_ := Aside0.mk (hbox); have n3_ := Aside0.mk ((by rw [hg]; exact (below_size (by repeat (first | (with_reducible first | exact HB.out | apply below_alloc | apply pw_below_drewN | apply below_drew1) | exact HB.out))) : w.heap.size ≤ gb115)); have n4_ := Aside0.mk ((by rw [hg]; exact (below_size (by repeat (first | (with_reducible first | exact HB.out | apply below_alloc | apply pw_below_drewN | apply below_drew1) | exact HB.out))) : w.heap.size ≤ gb115)); clear HO112; clear HB; have HO112 := n0_; have HB := n1_; have BK115 := n2_; have GW115 := n3_; have GE115 := n4_; clear n0_ n1_ n2_ n3_ n4_; clear hb hbox hg; have hcz52_0 : w51.cell? ⟨gb115, 0, none⟩ = some (.int .i64 0) := (blk_cell BK115.out 0).trans rfl; have hcz52_1 : w51.cell? ⟨gb115, 1, none⟩ = some (.int .i64 0) := (blk_cell BK115.out 1).trans rfl; have hfz52_0 := blk_frozen BK115.out 0; have hfz52_1 := blk_frozen BK115.out 1) | ((with_reducible refine gate_callee (f := 52) rfl ?_); refine goesL_ (some 12) rfl rfl Tryd.func52 (by kernel_rfl) rfl #[.string (⟨#[107, 101, 101, 112, 32, 97, 108, 108, 10]⟩ : ByteArray)] rfl (by (try simp only [List.map_toArray, List.map_cons, List.map_nil]); first | done | rfl | (simp only [List.length_drop, List.length_take]; rfl)) ?_; (with_reducible refine (rules_Parse.calls (⟨#[107, 101, 101, 112, 32, 97, 108, 108, 10]⟩ : ByteArray) t116 t119 t120 _ ?side1 A2.out).mono ?_); (case side1 => exact MaxL.below HGMaxL.out (by repeat (first | (with_reducible first | exact HB.out | apply below_alloc | apply pw_below_drewN | apply below_drew1 | refine below_set ?_ GE115.out) | exact HB.out))); rintro e w53 ⟨v117, rfl, ho0, hb⟩; refine ⟨_, rfl, ?_⟩; have n0_ := Aside0.mk (Kd.R_elder' (by (with_reducible repeat (first | apply Kd.R_alloc | apply Kd.R_drewN | apply Kd.R_drew)); exact (Kd.R_mono (Kd.R_far (p := ⟨gb115, 1, none⟩) (Kd.R_far (p := ⟨gb115, 0, none⟩) (Kd.R_types HO112.out BK115.out (by decide)) (fun _ hk => hk.2) (.int .i64 t113)) (fun _ hk => hk.2) (.int .i64 t114)) (fun _ h_ => h_.1))) (Kd.R_base ho0) hb); have n1_ := Aside0.mk (Kd.R_lower (Kd.R_new' ho0 (Kd.R_lt (by (with_reducible repeat (first | apply Kd.R_alloc | apply Kd.R_drewN | apply Kd.R_drew)); exact (Kd.R_mono (Kd.R_far (p := ⟨gb115, 1, none⟩) (Kd.R_far (p := ⟨gb115, 0, none⟩) (Kd.R_types HO112.out BK115.out (by decide)) (fun _ hk => hk.2) (.int .i64 t113)) (fun _ hk => hk.2) (.int .i64 t114)) (fun _ h_ => h_.1))))) (below_size (by repeat (first | (with_reducible first | exact HB.out | apply below_alloc | apply pw_below_drewN | apply below_drew1 | refine below_set ?_ GE115.out) | exact HB.out)))); have n2_ := Aside0.mk (blk_below (g := gb115) (o := .cells #[.int .i64 t113, .int .i64 t114] 31 (0, 0)) (by (with_reducible repeat (first | refine blk_drewN ?_ _ | refine blk_drew ?_ | refine blk_alloc ?_ _)); refine blk_put (cs := #[.int .i64 t113, .int .i64 0]) ?_ 1 _ rfl; (with_reducible repeat (first | refine blk_drewN ?_ _ | refine blk_drew ?_ | refine blk_alloc ?_ _)); refine blk_put (cs := #[.int .i64 0, .int .i64 0]) ?_ 0 _ rfl; (with_reducible repeat (first | refine blk_drewN ?_ _ | refine blk_drew ?_ | refine blk_alloc ?_ _)); exact BK115.out) hb); have n3_ := Aside0.mk (below_step (by repeat (first | (with_reducible first | exact HB.out | apply below_alloc | apply pw_below_drewN | apply below_drew1 | refine below_set ?_ GE115.out) | exact HB.out)) hb); clear HO112; clear BK115; clear HB; have HO112 := n0_; have HO118 := n1_; have BK115 := n2_; have HB := n3_; clear n0_ n1_ n2_ n3_; (try clear hb); (try clear hb2); (try clear hk); (try clear hi); (try clear ho0)) | ((with_reducible refine gate_dst (N := 4) rfl ?_); (try (refine gate_guard (by rfl) ?_; dsimp only)); refine box_event ?hg (N := 4) ?hd (cs := #[.int .i64 0, .int .i64 0]) (t := 31) ?hr ?_; (case hd => rfl); (case hg => rfl); (case hr => first | (go_simp; done) | (go_simp; rfl)); intro gb121 hg w54 hbox hb; have n0_ := Aside0.mk (Kd.R_below (by (with_reducible repeat (first | apply Kd.R_alloc | apply Kd.R_drewN | apply Kd.R_drew)); exact HO112.out) hb); have n1_ := Aside0.mk (Kd.R_below (by (with_reducible repeat (first | apply Kd.R_alloc | apply Kd.R_drewN | apply Kd.R_drew)); exact HO118.out) hb); have n2_ := Aside0.mk (blk_below (g := gb115) (o := .cells #[.int .i64 t113, .int .i64 t114] 31 (0, 0)) (by (with_reducible repeat (first | refine blk_drewN ?_ _ | refine blk_drew ?_ | refine blk_alloc ?_ _)); exact BK115.out) hb); have n3_ := Aside0.mk (below_step (by repeat (first | (with_reducible first | exact HB.out | apply below_alloc | apply pw_below_drewN | apply below_drew1 | refine below_set ?_ GE115.out) | exact HB.out)) hb); have n4_ := Aside0.mk (hbox); have n5_ := Aside0.mk ((by rw [hg]; exact (below_size (by repeat (first | (with_reducible first | exact HB.out | apply below_alloc | apply pw_below_drewN | apply below_drew1 | refine below_set ?_ GE115.out) | exact HB.out))) : w.heap.size ≤ gb121)); have n6_ := Aside0.mk ((by rw [hg]; exact (below_size (by repeat (first | (with_reducible first | exact HB.out | apply below_alloc | apply pw_below_drewN | apply below_drew1 | refine below_set ?_ GE115.out) | exact HB.out))) : w.heap.size ≤ gb121)); have n7_ := Aside0.mk ((by rw [hg]; exact Nat.ne_of_lt (blk_lt (g := gb115) (o := .cells #[.int .i64 t113, .int .i64 t114] 31 (0, 0)) (by (with_reducible repeat (first | refine blk_drewN ?_ _ | refine blk_drew ?_ | refine blk_alloc ?_ _)); exact BK115.out)) : gb115 ≠ gb121)); have n8_ := Aside0.mk ((by rw [hg]; exact Nat.ne_of_gt (blk_lt (g := gb115) (o := .cells #[.int .i64 t113, .int .i64 t114] 31 (0, 0)) (by (with_reducible repeat (first | refine blk_drewN ?_ _ | refine blk_drew ?_ | refine blk_alloc ?_ _)); exact BK115.out)) : gb121 ≠ gb115)); clear HO112; clear HO118; clear BK115; clear HB; have HO112 := n0_; have HO118 := n1_; have BK115 := n2_; have HB := n3_; have BK121 := n4_; have GW121 := n5_; have GE121 := n6_; have NB115_121 := n7_; have NB121_115 := n8_; clear n0_ n1_ n2_ n3_ n4_ n5_ n6_ n7_ n8_; clear hb hbox hg; have hnb55 := NB121_115.out; have hnc55 := NB115_121.out; have hcz56_0 : w54.cell? ⟨gb121, 0, none⟩ = some (.int .i64 0) := (blk_cell BK121.out 0).trans rfl; have hcz56_1 : w54.cell? ⟨gb121, 1, none⟩ = some (.int .i64 0) := (blk_cell BK121.out 1).trans rfl; have hfz56_0 := blk_frozen BK121.out 0; have hfz56_1 := blk_frozen BK121.out 1; obtain ⟨Ao57, co57, eo57⟩ := Kd.R_slice HO112.out; subst eo57) | ((with_reducible refine gate_callee (f := 54) rfl ?_); refine goesL_ (some 17) rfl rfl Tryd.func54 (by kernel_rfl) rfl #[.slice Ao57 t110.length co57] rfl (by (try simp only [List.map_toArray, List.map_cons, List.map_nil]); first | done | rfl | (simp only [List.length_drop, List.length_take]; rfl)) ?_; (with_reducible refine (rules_Print.calls _ _ t110 t122 t123 _ ?side1 ?side2 A3.out).mono ?_); (case side1 => refine (Kd.R_reads' (e := 66) (base := w.heap.size) (ok := fun k_ => (True ∧ some k_ ≠ (v117 : Value).ownBlock)) (n := t110.length) (c := co57) ?_).2.2; exact (by (with_reducible repeat (first | apply Kd.R_alloc | apply Kd.R_drewN | apply Kd.R_drew)); exact (Kd.R_mono (Kd.R_far (p := ⟨gb121, 1, none⟩) (Kd.R_far (p := ⟨gb121, 0, none⟩) (Kd.R_types HO112.out BK121.out (by decide)) (fun _ hk => hk.2) (.int .i64 t119)) (fun _ hk => hk.2) (.int .i64 t120)) (fun _ h_ => h_.1)))); (case side2 => exact (Kd.R_reads' HO112.out).2.1); rintro e w58 ⟨rfl, hb⟩; refine ⟨_, rfl, ?_⟩; have n0_ := Aside0.mk (Kd.R_below (by (with_reducible repeat (first | apply Kd.R_alloc | apply Kd.R_drewN | apply Kd.R_drew)); exact (Kd.R_mono (Kd.R_far (p := ⟨gb121, 1, none⟩) (Kd.R_far (p := ⟨gb121, 0, none⟩) (Kd.R_types HO112.out BK121.out (by decide)) (fun _ hk => hk.2) (.int .i64 t119)) (fun _ hk => hk.2) (.int .i64 t120)) (fun _ h_ => h_.1))) hb); have n1_ := Aside0.mk (Kd.R_below (by (with_reducible repeat (first | apply Kd.R_alloc | apply Kd.R_drewN | apply Kd.R_drew)); exact (Kd.R_mono (Kd.R_far (p := ⟨gb121, 1, none⟩) (Kd.R_far (p := ⟨gb121, 0, none⟩) (Kd.R_types HO118.out BK121.out (by decide)) (fun _ hk => hk.2) (.int .i64 t119)) (fun _ hk => hk.2) (.int .i64 t120)) (fun _ h_ => h_.1))) hb); have n2_ := Aside0.mk (blk_below (g := gb115) (o := .cells #[.int .i64 t113, .int .i64 t114] 31 (0, 0)) (by (with_reducible repeat (first | refine blk_drewN ?_ _ | refine blk_drew ?_ | refine blk_alloc ?_ _)); refine blk_far ?_ NB115_121.out _; (with_reducible repeat (first | refine blk_drewN ?_ _ | refine blk_drew ?_ | refine blk_alloc ?_ _)); refine blk_far ?_ NB115_121.out _; (with_reducible repeat (first | refine blk_drewN ?_ _ | refine blk_drew ?_ | refine blk_alloc ?_ _)); exact BK115.out) hb); have n3_ := Aside0.mk (blk_below (g := gb121) (o := .cells #[.int .i64 t119, .int .i64 t120] 31 (0, 0)) (by (with_reducible repeat (first | refine blk_drewN ?_ _ | refine blk_drew ?_ | refine blk_alloc ?_ _)); refine blk_put (cs := #[.int .i64 t119, .int .i64 0]) ?_ 1 _ rfl; (with_reducible repeat (first | refine blk_drewN ?_ _ | refine blk_drew ?_ | refine blk_alloc ?_ _)); refine blk_put (cs := #[.int .i64 0, .int .i64 0]) ?_ 0 _ rfl; (with_reducible repeat (first | refine blk_drewN ?_ _ | refine blk_drew ?_ | refine blk_alloc ?_ _)); exact BK121.out) hb); have n4_ := Aside0.mk (below_step (by repeat (first | (with_reducible first | exact HB.out | apply below_alloc | apply pw_below_drewN | apply below_drew1 | refine below_set ?_ GE115.out | refine below_set ?_ GE121.out) | exact HB.out)) hb); clear HO112; clear HO118; clear BK115; clear BK121; clear HB; have HO112 := n0_; have HO118 := n1_; have BK115 := n2_; have BK121 := n3_; have HB := n4_; clear n0_ n1_ n2_ n3_ n4_; (try clear hb); (try clear hb2); (try clear hk); (try clear hi); have hcz59_0 : w58.cell? ⟨gb115, 0, none⟩ = some (.int .i64 t113) := (blk_cell BK115.out 0).trans rfl; have hcz59_1 : w58.cell? ⟨gb115, 1, none⟩ = some (.int .i64 t114) := (blk_cell BK115.out 1).trans rfl; have hfz59_0 := blk_frozen BK115.out 0; have hfz59_1 := blk_frozen BK115.out 1; have hcz60_0 : w58.cell? ⟨gb121, 0, none⟩ = some (.int .i64 t119) := (blk_cell BK121.out 0).trans rfl; have hcz60_1 : w58.cell? ⟨gb121, 1, none⟩ = some (.int .i64 t120) := (blk_cell BK121.out 1).trans rfl; have hfz60_0 := blk_frozen BK121.out 0; have hfz60_1 := blk_frozen BK121.out 1; have p124 : 0 ≤ (0 : Int) := (by omega); have q124 : 0 < (t110.length : Int) := of_decide_eq_true (by first | (with_reducible assumption) | assumption); obtain ⟨ad124, e124, hx124_0, hx124_1, hx124_2, hx124_3, hx124_4⟩ := at_T66 (Kd.R_reads' HO112.out).2.2 0 p124 q124; cases e124; have qi124 : (0 < t110.length) = True := eq_true (by omega); (try rw [show ((0 : Int)).toNat = 0 from rfl] at hx124_0); (try rw [show 0 * 5 = 0 from rfl] at hx124_0); (try rw [Addr.add_zero'] at hx124_0); (try rw [show ((0 : Int)).toNat = 0 from rfl] at hx124_1); (try rw [show 0 * 5 = 0 from rfl] at hx124_1); (try rw [Addr.add_zero'] at hx124_1); (try rw [show ((0 : Int)).toNat = 0 from rfl] at hx124_2); (try rw [show 0 * 5 = 0 from rfl] at hx124_2); (try rw [Addr.add_zero'] at hx124_2); (try rw [show ((0 : Int)).toNat = 0 from rfl] at hx124_3); (try rw [show 0 * 5 = 0 from rfl] at hx124_3); (try rw [Addr.add_zero'] at hx124_3); (try rw [show ((0 : Int)).toNat = 0 from rfl] at hx124_4); (try rw [show 0 * 5 = 0 from rfl] at hx124_4); (try rw [Addr.add_zero'] at hx124_4); replace p124 := eq_true p124; replace q124 := eq_true q124) | (go_at_call 60; (with_reducible refine (rules_Member.calls k ((rd_T66 t110 0).f0) ((rd_T66 t110 0).f1) ((rd_T66 t110 0).f2) ((rd_T66 t110 0).f3) ((rd_T66 t110 0).f4) (⟨#[65]⟩ : ByteArray) (⟨#[109]⟩ : ByteArray) (⟨#[40, 41, 73]⟩ : ByteArray) true _ A10.out).mono ?_); rintro e w61 ⟨rfl, hb⟩; have n0_ := Aside0.mk (Kd.R_below (by (with_reducible repeat (first | apply Kd.R_alloc | apply Kd.R_drewN | apply Kd.R_drew)); exact HO112.out) hb); have n1_ := Aside0.mk (Kd.R_below (by (with_reducible repeat (first | apply Kd.R_alloc | apply Kd.R_drewN | apply Kd.R_drew)); exact HO118.out) hb); have n2_ := Aside0.mk (blk_below (g := gb115) (o := .cells #[.int .i64 t113, .int .i64 t114] 31 (0, 0)) (by (with_reducible repeat (first | refine blk_drewN ?_ _ | refine blk_drew ?_ | refine blk_alloc ?_ _)); exact BK115.out) hb); have n3_ := Aside0.mk (blk_below (g := gb121) (o := .cells #[.int .i64 t119, .int .i64 t120] 31 (0, 0)) (by (with_reducible repeat (first | refine blk_drewN ?_ _ | refine blk_drew ?_ | refine blk_alloc ?_ _)); exact BK121.out) hb); have n4_ := Aside0.mk (below_step (by repeat (first | (with_reducible first | exact HB.out | apply below_alloc | apply pw_below_drewN | apply below_drew1 | refine below_set ?_ GE115.out | refine below_set ?_ GE121.out) | exact HB.out)) hb); clear HO112; clear HO118; clear BK115; clear BK121; clear HB; have HO112 := n0_; have HO118 := n1_; have BK115 := n2_; have BK121 := n3_; have HB := n4_; clear n0_ n1_ n2_ n3_ n4_; (try clear hb); (try clear hb2); (try clear hk); (try clear hi); have p126 : 0 ≤ (0 : Int) := (by omega); have q126 : 0 < (t110.length : Int) := of_decide_eq_true (by first | (with_reducible assumption) | assumption); obtain ⟨ad126, e126, hx126_0, hx126_1, hx126_2, hx126_3, hx126_4⟩ := at_T66 (Kd.R_reads' HO112.out).2.2 0 p126 q126; obtain rfl : ad124 = ad126 := (by injection e126); have qi126 : (0 < t110.length) = True := eq_true (by omega); (try rw [show ((0 : Int)).toNat = 0 from rfl] at hx126_0); (try rw [show 0 * 5 = 0 from rfl] at hx126_0); (try rw [Addr.add_zero'] at hx126_0); (try rw [show ((0 : Int)).toNat = 0 from rfl] at hx126_1); (try rw [show 0 * 5 = 0 from rfl] at hx126_1); (try rw [Addr.add_zero'] at hx126_1); (try rw [show ((0 : Int)).toNat = 0 from rfl] at hx126_2); (try rw [show 0 * 5 = 0 from rfl] at hx126_2); (try rw [Addr.add_zero'] at hx126_2); (try rw [show ((0 : Int)).toNat = 0 from rfl] at hx126_3); (try rw [show 0 * 5 = 0 from rfl] at hx126_3); (try rw [Addr.add_zero'] at hx126_3); (try rw [show ((0 : Int)).toNat = 0 from rfl] at hx126_4); (try rw [show 0 * 5 = 0 from rfl] at hx126_4); (try rw [Addr.add_zero'] at hx126_4); replace p126 := eq_true p126; replace q126 := eq_true q126) | (go_at_call 60; (with_reducible refine (rules_Member.calls k ((rd_T66 t110 0).f0) ((rd_T66 t110 0).f1) ((rd_T66 t110 0).f2) ((rd_T66 t110 0).f3) ((rd_T66 t110 0).f4) (⟨#[65]⟩ : ByteArray) (⟨#[60, 99, 108, 105, 110, 105, 116, 62]⟩ : ByteArray) (⟨#[40, 41, 73]⟩ : ByteArray) false _ A12.out).mono ?_); rintro e w62 ⟨rfl, hb⟩; have n0_ := Aside0.mk (Kd.R_below (by (with_reducible repeat (first | apply Kd.R_alloc | apply Kd.R_drewN | apply Kd.R_drew)); exact HO112.out) hb); have n1_ := Aside0.mk (Kd.R_below (by (with_reducible repeat (first | apply Kd.R_alloc | apply Kd.R_drewN | apply Kd.R_drew)); exact HO118.out) hb); have n2_ := Aside0.mk (blk_below (g := gb115) (o := .cells #[.int .i64 t113, .int .i64 t114] 31 (0, 0)) (by (with_reducible repeat (first | refine blk_drewN ?_ _ | refine blk_drew ?_ | refine blk_alloc ?_ _)); exact BK115.out) hb); have n3_ := Aside0.mk (blk_below (g := gb121) (o := .cells #[.int .i64 t119, .int .i64 t120] 31 (0, 0)) (by (with_reducible repeat (first | refine blk_drewN ?_ _ | refine blk_drew ?_ | refine blk_alloc ?_ _)); exact BK121.out) hb); have n4_ := Aside0.mk (below_step (by repeat (first | (with_reducible first | exact HB.out | apply below_alloc | apply pw_below_drewN | apply below_drew1 | refine below_set ?_ GE115.out | refine below_set ?_ GE121.out) | exact HB.out)) hb); clear HO112; clear HO118; clear BK115; clear BK121; clear HB; have HO112 := n0_; have HO118 := n1_; have BK115 := n2_; have BK121 := n3_; have HB := n4_; clear n0_ n1_ n2_ n3_ n4_; (try clear hb); (try clear hb2); (try clear hk); (try clear hi); have p128 : 0 ≤ (1 : Int) := (by omega); have q128 : 1 < (t110.length : Int) := of_decide_eq_true (by first | (with_reducible assumption) | assumption); obtain ⟨ad128, e128, hx128_0, hx128_1, hx128_2, hx128_3, hx128_4⟩ := at_T66 (Kd.R_reads' HO112.out).2.2 1 p128 q128; obtain rfl : ad124 = ad128 := (by injection e128); (try simp only [show (1 : Int).toNat = 1 from rfl, Nat.reduceMul, Nat.reduceEqDiff, Go.Addr.add, ↓reduceIte] at hx128_0); (try simp only [show (1 : Int).toNat = 1 from rfl, Nat.reduceMul, Nat.reduceEqDiff, Go.Addr.add, ↓reduceIte] at hx128_1); (try simp only [show (1 : Int).toNat = 1 from rfl, Nat.reduceMul, Nat.reduceEqDiff, Go.Addr.add, ↓reduceIte] at hx128_2); (try simp only [show (1 : Int).toNat = 1 from rfl, Nat.reduceMul, Nat.reduceEqDiff, Go.Addr.add, ↓reduceIte] at hx128_3); (try simp only [show (1 : Int).toNat = 1 from rfl, Nat.reduceMul, Nat.reduceEqDiff, Go.Addr.add, ↓reduceIte] at hx128_4); have qi128 : (1 < t110.length) = True := eq_true (by omega); (try rw [show ((1 : Int)).toNat = 1 from rfl] at hx128_0); (try rw [show 1 * 5 = 5 from rfl] at hx128_0); (try rw [show ((1 : Int)).toNat = 1 from rfl] at hx128_1); (try rw [show 1 * 5 = 5 from rfl] at hx128_1); (try rw [show ((1 : Int)).toNat = 1 from rfl] at hx128_2); (try rw [show 1 * 5 = 5 from rfl] at hx128_2); (try rw [show ((1 : Int)).toNat = 1 from rfl] at hx128_3); (try rw [show 1 * 5 = 5 from rfl] at hx128_3); (try rw [show ((1 : Int)).toNat = 1 from rfl] at hx128_4); (try rw [show 1 * 5 = 5 from rfl] at hx128_4); replace p128 := eq_true p128; replace q128 := eq_true q128) | (go_at_call 58; (with_reducible refine (rules_Class.calls ((rd_T66 t110 1).f0) ((rd_T66 t110 1).f1) ((rd_T66 t110 1).f2) ((rd_T66 t110 1).f3) ((rd_T66 t110 1).f4) (⟨#[66, 120]⟩ : ByteArray) true _ A28.out).mono ?_); rintro e w63 ⟨rfl, hb⟩; have n0_ := Aside0.mk (Kd.R_below (by (with_reducible repeat (first | apply Kd.R_alloc | apply Kd.R_drewN | apply Kd.R_drew)); exact HO112.out) hb); have n1_ := Aside0.mk (Kd.R_below (by (with_reducible repeat (first | apply Kd.R_alloc | apply Kd.R_drewN | apply Kd.R_drew)); exact HO118.out) hb); have n2_ := Aside0.mk (blk_below (g := gb115) (o := .cells #[.int .i64 t113, .int .i64 t114] 31 (0, 0)) (by (with_reducible repeat (first | refine blk_drewN ?_ _ | refine blk_drew ?_ | refine blk_alloc ?_ _)); exact BK115.out) hb); have n3_ := Aside0.mk (blk_below (g := gb121) (o := .cells #[.int .i64 t119, .int .i64 t120] 31 (0, 0)) (by (with_reducible repeat (first | refine blk_drewN ?_ _ | refine blk_drew ?_ | refine blk_alloc ?_ _)); exact BK121.out) hb); have n4_ := Aside0.mk (below_step (by repeat (first | (with_reducible first | exact HB.out | apply below_alloc | apply pw_below_drewN | apply below_drew1 | refine below_set ?_ GE115.out | refine below_set ?_ GE121.out) | exact HB.out)) hb); clear HO112; clear HO118; clear BK115; clear BK121; clear HB; have HO112 := n0_; have HO118 := n1_; have BK115 := n2_; have BK121 := n3_; have HB := n4_; clear n0_ n1_ n2_ n3_ n4_; (try clear hb); (try clear hb2); (try clear hk); (try clear hi); have p130 : 0 ≤ (0 : Int) := (by omega); have q130 : 0 < (t110.length : Int) := of_decide_eq_true (by first | (with_reducible assumption) | assumption); obtain ⟨ad130, e130, hx130_0, hx130_1, hx130_2, hx130_3, hx130_4⟩ := at_T66 (Kd.R_reads' HO112.out).2.2 0 p130 q130; obtain rfl : ad124 = ad130 := (by injection e130); have qi130 : (0 < t110.length) = True := eq_true (by omega); (try rw [show ((0 : Int)).toNat = 0 from rfl] at hx130_0); (try rw [show 0 * 5 = 0 from rfl] at hx130_0); (try rw [Addr.add_zero'] at hx130_0); (try rw [show ((0 : Int)).toNat = 0 from rfl] at hx130_1); (try rw [show 0 * 5 = 0 from rfl] at hx130_1); (try rw [Addr.add_zero'] at hx130_1); (try rw [show ((0 : Int)).toNat = 0 from rfl] at hx130_2); (try rw [show 0 * 5 = 0 from rfl] at hx130_2); (try rw [Addr.add_zero'] at hx130_2); (try rw [show ((0 : Int)).toNat = 0 from rfl] at hx130_3); (try rw [show 0 * 5 = 0 from rfl] at hx130_3); (try rw [Addr.add_zero'] at hx130_3); (try rw [show ((0 : Int)).toNat = 0 from rfl] at hx130_4); (try rw [show 0 * 5 = 0 from rfl] at hx130_4); (try rw [Addr.add_zero'] at hx130_4); replace p130 := eq_true p130; replace q130 := eq_true q130) | (go_at_call 58; (with_reducible refine (rules_Class.calls ((rd_T66 t110 0).f0) ((rd_T66 t110 0).f1) ((rd_T66 t110 0).f2) ((rd_T66 t110 0).f3) ((rd_T66 t110 0).f4) (⟨#[65]⟩ : ByteArray) false _ A30.out).mono ?_); rintro e w64 ⟨rfl, hb⟩; have n0_ := Aside0.mk (Kd.R_below (by (with_reducible repeat (first | apply Kd.R_alloc | apply Kd.R_drewN | apply Kd.R_drew)); exact HO112.out) hb); have n1_ := Aside0.mk (Kd.R_below (by (with_reducible repeat (first | apply Kd.R_alloc | apply Kd.R_drewN | apply Kd.R_drew)); exact HO118.out) hb); have n2_ := Aside0.mk (blk_below (g := gb115) (o := .cells #[.int .i64 t113, .int .i64 t114] 31 (0, 0)) (by (with_reducible repeat (first | refine blk_drewN ?_ _ | refine blk_drew ?_ | refine blk_alloc ?_ _)); exact BK115.out) hb); have n3_ := Aside0.mk (blk_below (g := gb121) (o := .cells #[.int .i64 t119, .int .i64 t120] 31 (0, 0)) (by (with_reducible repeat (first | refine blk_drewN ?_ _ | refine blk_drew ?_ | refine blk_alloc ?_ _)); exact BK121.out) hb); have n4_ := Aside0.mk (below_step (by repeat (first | (with_reducible first | exact HB.out | apply below_alloc | apply pw_below_drewN | apply below_drew1 | refine below_set ?_ GE115.out | refine below_set ?_ GE121.out) | exact HB.out)) hb); clear HO112; clear HO118; clear BK115; clear BK121; clear HB; have HO112 := n0_; have HO118 := n1_; have BK115 := n2_; have BK121 := n3_; have HB := n4_; clear n0_ n1_ n2_ n3_ n4_; (try clear hb); (try clear hb2); (try clear hk); (try clear hi); have p132 : 0 ≤ (0 : Int) := (by omega); have q132 : 0 < (t110.length : Int) := of_decide_eq_true (by first | (with_reducible assumption) | assumption); obtain ⟨ad132, e132, hx132_0, hx132_1, hx132_2, hx132_3, hx132_4⟩ := at_T66 (Kd.R_reads' HO112.out).2.2 0 p132 q132; obtain rfl : ad124 = ad132 := (by injection e132); have qi132 : (0 < t110.length) = True := eq_true (by omega); (try rw [show ((0 : Int)).toNat = 0 from rfl] at hx132_0); (try rw [show 0 * 5 = 0 from rfl] at hx132_0); (try rw [Addr.add_zero'] at hx132_0); (try rw [show ((0 : Int)).toNat = 0 from rfl] at hx132_1); (try rw [show 0 * 5 = 0 from rfl] at hx132_1); (try rw [Addr.add_zero'] at hx132_1); (try rw [show ((0 : Int)).toNat = 0 from rfl] at hx132_2); (try rw [show 0 * 5 = 0 from rfl] at hx132_2); (try rw [Addr.add_zero'] at hx132_2); (try rw [show ((0 : Int)).toNat = 0 from rfl] at hx132_3); (try rw [show 0 * 5 = 0 from rfl] at hx132_3); (try rw [Addr.add_zero'] at hx132_3); (try rw [show ((0 : Int)).toNat = 0 from rfl] at hx132_4); (try rw [show 0 * 5 = 0 from rfl] at hx132_4); (try rw [Addr.add_zero'] at hx132_4); replace p132 := eq_true p132; replace q132 := eq_true q132) | (go_at_call 50; (with_reducible refine (rules_Right.calls ((rd_T66 t110 0).f0) ((rd_T66 t110 0).f1) ((rd_T66 t110 0).f2) ((rd_T66 t110 0).f3) ((rd_T66 t110 0).f4) true _ A47.out).mono ?_); rintro e w65 ⟨rfl, hb⟩; have n0_ := Aside0.mk (Kd.R_below (by (with_reducible repeat (first | apply Kd.R_alloc | apply Kd.R_drewN | apply Kd.R_drew)); exact HO112.out) hb); have n1_ := Aside0.mk (Kd.R_below (by (with_reducible repeat (first | apply Kd.R_alloc | apply Kd.R_drewN | apply Kd.R_drew)); exact HO118.out) hb); have n2_ := Aside0.mk (blk_below (g := gb115) (o := .cells #[.int .i64 t113, .int .i64 t114] 31 (0, 0)) (by (with_reducible repeat (first | refine blk_drewN ?_ _ | refine blk_drew ?_ | refine blk_alloc ?_ _)); exact BK115.out) hb); have n3_ := Aside0.mk (blk_below (g := gb121) (o := .cells #[.int .i64 t119, .int .i64 t120] 31 (0, 0)) (by (with_reducible repeat (first | refine blk_drewN ?_ _ | refine blk_drew ?_ | refine blk_alloc ?_ _)); exact BK121.out) hb); have n4_ := Aside0.mk (below_step (by repeat (first | (with_reducible first | exact HB.out | apply below_alloc | apply pw_below_drewN | apply below_drew1 | refine below_set ?_ GE115.out | refine below_set ?_ GE121.out) | exact HB.out)) hb); clear HO112; clear HO118; clear BK115; clear BK121; clear HB; have HO112 := n0_; have HO118 := n1_; have BK115 := n2_; have BK121 := n3_; have HB := n4_; clear n0_ n1_ n2_ n3_ n4_; (try clear hb); (try clear hb2); (try clear hk); (try clear hi)) | (go_at_call 65; (with_reducible refine (rules_Exact.calls (⟨#[65]⟩ : ByteArray) true t134 t135 t136 t137 t138 _ A49.out).mono ?_); rintro e w66 ⟨rfl, hb⟩; have n0_ := Aside0.mk (Kd.R_below (by (with_reducible repeat (first | apply Kd.R_alloc | apply Kd.R_drewN | apply Kd.R_drew)); exact HO112.out) hb); have n1_ := Aside0.mk (Kd.R_below (by (with_reducible repeat (first | apply Kd.R_alloc | apply Kd.R_drewN | apply Kd.R_drew)); exact HO118.out) hb); have n2_ := Aside0.mk (blk_below (g := gb115) (o := .cells #[.int .i64 t113, .int .i64 t114] 31 (0, 0)) (by (with_reducible repeat (first | refine blk_drewN ?_ _ | refine blk_drew ?_ | refine blk_alloc ?_ _)); exact BK115.out) hb); have n3_ := Aside0.mk (blk_below (g := gb121) (o := .cells #[.int .i64 t119, .int .i64 t120] 31 (0, 0)) (by (with_reducible repeat (first | refine blk_drewN ?_ _ | refine blk_drew ?_ | refine blk_alloc ?_ _)); exact BK121.out) hb); have n4_ := Aside0.mk (below_step (by repeat (first | (with_reducible first | exact HB.out | apply below_alloc | apply pw_below_drewN | apply below_drew1 | refine below_set ?_ GE115.out | refine below_set ?_ GE121.out) | exact HB.out)) hb); clear HO112; clear HO118; clear BK115; clear BK121; clear HB; have HO112 := n0_; have HO118 := n1_; have BK115 := n2_; have BK121 := n3_; have HB := n4_; clear n0_ n1_ n2_ n3_ n4_; (try clear hb); (try clear hb2); (try clear hk); (try clear hi)))
                          go_ret
                          exact ⟨by first | rfl | (simp [errW_none, errW_some] <;> rfl) | (simp [*, errW_none, errW_some] <;> rfl), by repeat (first | (with_reducible first | exact HB.out | apply below_alloc | apply pw_below_drewN | apply below_drew1 | refine below_set ?_ GE115.out | refine below_set ?_ GE121.out) | exact HB.out)⟩
                        · replace c48 := Bool.eq_false_iff.mpr c48
                          subst c48
                          have H1 : (some false) = some r := by rw [if_neg (show ¬ (false = true) by decide)] at H; exact H
                          exact absurd ((Option.some.inj H1).trans HRT.out) (by decide)
                    · replace c29 := Bool.eq_false_iff.mpr c29
                      subst c29
                      have H1 : (some false) = some r := by rw [if_neg (show ¬ (false = true) by decide)] at H; exact H
                      exact absurd ((Option.some.inj H1).trans HRT.out) (by decide)
                  · rw [if_neg c27] at H
                    exact absurd H (by simp)
              · replace c11 := Bool.eq_false_iff.mpr c11
                subst c11
                have H1 : (some false) = some r := by rw [if_neg (show ¬ (false = true) by decide)] at H; exact H
                exact absurd ((Option.some.inj H1).trans HRT.out) (by decide)
            · rw [if_neg c9] at H
              exact absurd H (by simp)
          · rw [if_neg c8] at H
            exact absurd ((Option.some.inj H).trans HRT.out) (by decide)
        · rw [if_neg c7] at H
          exact absurd ((Option.some.inj H).trans HRT.out) (by decide)
      · rw [if_neg c6] at H
        exact absurd ((Option.some.inj H).trans HRT.out) (by decide)
    · rw [if_neg c5] at H
      exact absurd ((Option.some.inj H).trans HRT.out) (by decide)
  · rw [if_neg c4] at H
    exact absurd ((Option.some.inj H).trans HRT.out) (by decide)
end Go.Proofs.YtmlbfepibfobaaaDoor.Q18
end

section
-- Written by this session's program layer.py (the kit's print, turned), not by hand.
namespace Go.Proofs.YtmlbfepibfobaaaDoor.Q18
open Go.RowKit Go.Proofs.YtmlbfepibfobaaaDoorW.PrintWords Go.Proofs.YtmlbfepibfobaaaDoorW.PrintLast Go.Proofs.YtmlbfepibfobaaaDoorW.PrintMore Go.Proofs.YtmlbfepibfobaaaDoor.Hand
attribute [local go_sem] max2_int min2_int max_two min_two max_three min_three max_four min_four   -- for this text's walks alone
set_option linter.unusedVariables false
set_option linter.unusedSimpArgs false

end Go.Proofs.YtmlbfepibfobaaaDoor.Q18
end

section
namespace Go.Proofs.YtmlbfepibfobaaaDoor.Hand
open Go.RowKit Go.Proofs.YtmlbfepibfobaaaDoorW.PrintWords Go.Proofs.YtmlbfepibfobaaaDoorW.PrintLast Go.Proofs.YtmlbfepibfobaaaDoorW.PrintMore
set_option linter.unusedVariables false
set_option linter.unusedSimpArgs false

/-! ### of which classes and members a rule is -/
def classB (r : Rl) (c : List UInt8) : Bool := !r.2.1 && (rightR r && mat r.2.2.1 c)
def memberB (r : Rl) (c n d : List UInt8) : Bool := r.2.1 && (rightR r && (!decide (n = [60, 99, 108, 105, 110, 105, 116, 62]) && (mat r.2.2.1 c && (mat r.2.2.2.1 n && mat r.2.2.2.2 d))))
theorem mat_f (p s : ByteArray) (hp : p.size ≤ 1048576) (hs : s.size ≤ 1048576) : glob_Match.f p s = some (mat (bl p) (bl s)) := by
  unfold glob_Match.f
  rw [if_pos ⟨hp, hs⟩]
theorem classB_eq (n m : Bool) (c a d x : ByteArray) (hc : c.size ≤ 1048576) (ha : a.size ≤ 1048576) (hd : d.size ≤ 1048576) (hx : x.size ≤ 1048576) : Q18.rules_Class.f n m c a d x = some (classB (n, m, bl c, bl a, bl d) (bl x)) := by
  unfold Q18.rules_Class.f classB
  cases m with
  | true => rfl
  | false =>
    rw [if_neg (by decide), ruleF_eq n false c a d (by omega) (by omega) (by omega), Option.bind_some]
    cases rightR (n, false, bl c, bl a, bl d) with
    | false => rfl
    | true =>
      rw [if_pos rfl, mat_f c x hc hx]
      rfl
theorem memberB_eq (n m : Bool) (c a d x y z : ByteArray) (hc : c.size ≤ 1048576) (ha : a.size ≤ 1048576) (hd : d.size ≤ 1048576) (hx : x.size ≤ 1048576) (hy : y.size ≤ 1048576) (hz : z.size ≤ 1048576) (k : Nat) : Q18.rules_Member.f (k + 1) n m c a d x y z = some (memberB (n, m, bl c, bl a, bl d) (bl x) (bl y) (bl z)) := by
  unfold Q18.rules_Member.f memberB
  simp only [Q18.rules_Member.j0]
  cases m with
  | false => rfl
  | true =>
    rw [if_pos rfl, ruleF_eq n true c a d (by omega) (by omega) (by omega), Option.bind_some]
    cases rightR (n, true, bl c, bl a, bl d) with
    | false => rfl
    | true =>
      have e : (y.toList == ([60, 99, 108, 105, 110, 105, 116, 62] : List UInt8)) = decide (bl y = [60, 99, 108, 105, 110, 105, 116, 62]) := by
        rw [ByteArray.toList_eq]
        show (bl y == _) = _
        by_cases h : bl y = [60, 99, 108, 105, 110, 105, 116, 62]
        · simp [h]
        · simp [h]
      rw [if_pos rfl, e, mat_f c x hc hx, mat_f a y ha hy, mat_f d z hd hz]
      cases decide (bl y = [60, 99, 108, 105, 110, 105, 116, 62]) with
      | true => rfl
      | false =>
        rw [if_neg (by decide), Option.bind_some]
        cases mat (bl c) (bl x) with
        | false => rfl
        | true =>
          rw [if_pos rfl, Option.bind_some]
          cases mat (bl a) (bl y) with
          | false => rfl
          | true => rfl
def smallB (l : List ByteArray) : Bool := l.all fun s => decide (s.size ≤ 1048576)
def rules_Class.f (n m : Bool) (c a d x : ByteArray) : Option Bool := if c.size ≤ 1048576 ∧ a.size ≤ 1048576 ∧ d.size ≤ 1048576 ∧ x.size ≤ 1048576 then some (classB (n, m, bl c, bl a, bl d) (bl x)) else none
theorem rules_Class.calls (a0_0 : Bool) (a0_1 : Bool) (a0_2 : ByteArray) (a0_3 : ByteArray) (a0_4 : ByteArray) (a1 : ByteArray) (r : Bool) (w : World) (h : rules_Class.f a0_0 a0_1 a0_2 a0_3 a0_4 a1 = some r) :
    Calls Tryd.prog 58 #[.agg #[.bool a0_0, .bool a0_1, .string a0_2, .string a0_3, .string a0_4], .string a1] w fun e w' => e = .returned (.bool r) ∧ Below w.heap.size w w' := by
  unfold rules_Class.f at h
  split at h
  · rename_i hs
    exact Q18.rules_Class.calls a0_0 a0_1 a0_2 a0_3 a0_4 a1 r w ((classB_eq a0_0 a0_1 a0_2 a0_3 a0_4 a1 hs.1 hs.2.1 hs.2.2.1 hs.2.2.2).trans h)
  · cases h
def rules_Member.f (n m : Bool) (c a d x y z : ByteArray) : Option Bool := if c.size ≤ 1048576 ∧ a.size ≤ 1048576 ∧ d.size ≤ 1048576 ∧ x.size ≤ 1048576 ∧ y.size ≤ 1048576 ∧ z.size ≤ 1048576 then some (memberB (n, m, bl c, bl a, bl d) (bl x) (bl y) (bl z)) else none
theorem rules_Member.calls (a0_0 : Bool) (a0_1 : Bool) (a0_2 : ByteArray) (a0_3 : ByteArray) (a0_4 : ByteArray) (a1 : ByteArray) (a2 : ByteArray) (a3 : ByteArray) (r : Bool) (w : World) (h : rules_Member.f a0_0 a0_1 a0_2 a0_3 a0_4 a1 a2 a3 = some r) :
    Calls Tryd.prog 60 #[.agg #[.bool a0_0, .bool a0_1, .string a0_2, .string a0_3, .string a0_4], .string a1, .string a2, .string a3] w fun e w' => e = .returned (.bool r) ∧ Below w.heap.size w w' := by
  unfold rules_Member.f at h
  split at h
  · rename_i hs
    exact Q18.rules_Member.calls 1 a0_0 a0_1 a0_2 a0_3 a0_4 a1 a2 a3 r w ((memberB_eq a0_0 a0_1 a0_2 a0_3 a0_4 a1 a2 a3 hs.1 hs.2.1 hs.2.2.1 hs.2.2.2.1 hs.2.2.2.2.1 hs.2.2.2.2.2 0).trans h)
  · cases h
def ruleA : S66 := ⟨true, true, ⟨#[65]⟩, ⟨#[42]⟩, ⟨#[40, 41, 73]⟩⟩
def ruleB : S66 := ⟨false, false, ⟨#[66, 63]⟩, ⟨#[]⟩, ⟨#[]⟩⟩
theorem mat_same (c : UInt8) (l : List UInt8) (h : c ≠ 42) (h2 : mat l l = true) : mat (c :: l) (c :: l) = true := by
  rw [mat, if_neg h, h2]
  simp
theorem live_eq : Q18.secateurlaw22_live.f 3 = some true := by
  have m0 : mat [] [] = true := by rw [mat]
  have m1 : mat [65] [65] = true := mat_same 65 [] (by decide) m0
  have m2 : mat [42] [109] = true := (mat_iff _ _).2 (.more _ _ _ (.none _ _ .nil))
  have m3 : mat [40, 41, 73] [40, 41, 73] = true := mat_same 40 _ (by decide) (mat_same 41 _ (by decide) (mat_same 73 _ (by decide) m0))
  have m4 : mat [66, 63] [66, 120] = true := (mat_iff _ _).2 (.one _ _ _ _ (by decide) (.inr rfl) (.one _ _ _ _ (by decide) (.inl rfl) .nil))
  have hP1 : rules_Parse.f (⟨#[107, 101, 101, 112, 110, 97, 109, 101, 32, 109, 101, 109, 98, 101, 114, 32, 65, 32, 42, 32, 40, 41, 73, 10, 107, 101, 101, 112, 32, 99, 108, 97, 115, 115, 32, 66, 63, 10]⟩ : ByteArray) = some ([ruleA, ruleB], 0, 0) := by kernel_rfl
  have hP2 : rules_Parse.f (⟨#[107, 101, 101, 112, 32, 97, 108, 108, 10]⟩ : ByteArray) = some ([], 10, 1) := by kernel_rfl
  have hPr : rules_Print.f [ruleA, ruleB] = some (⟨#[107, 101, 101, 112, 110, 97, 109, 101, 32, 109, 101, 109, 98, 101, 114, 32, 65, 32, 42, 32, 40, 41, 73, 10, 107, 101, 101, 112, 32, 99, 108, 97, 115, 115, 32, 66, 63, 10]⟩, 0) := by kernel_rfl
  have hRA : rightR (true, true, [65], [42], [40, 41, 73]) = true := by kernel_rfl
  have hRB : rightR (false, false, [66, 63], [], []) = true := by kernel_rfl
  have hM1 : Q18.rules_Member.f 3 true true ⟨#[65]⟩ ⟨#[42]⟩ ⟨#[40, 41, 73]⟩ ⟨#[65]⟩ ⟨#[109]⟩ ⟨#[40, 41, 73]⟩ = some true := by
    refine (memberB_eq true true _ _ _ _ _ _ (by decide) (by decide) (by decide) (by decide) (by decide) (by decide) 2).trans (congrArg some ?_)
    show (true && (rightR (true, true, [65], [42], [40, 41, 73]) && (!decide (([109] : List UInt8) = [60, 99, 108, 105, 110, 105, 116, 62]) && (mat [65] [65] && (mat [42] [109] && mat [40, 41, 73] [40, 41, 73]))))) = true
    rw [hRA, m1, m2, m3]
    rfl
  have hM2 : Q18.rules_Member.f 3 true true ⟨#[65]⟩ ⟨#[42]⟩ ⟨#[40, 41, 73]⟩ ⟨#[65]⟩ ⟨#[60, 99, 108, 105, 110, 105, 116, 62]⟩ ⟨#[40, 41, 73]⟩ = some false := by
    refine (memberB_eq true true _ _ _ _ _ _ (by decide) (by decide) (by decide) (by decide) (by decide) (by decide) 2).trans (congrArg some ?_)
    show (true && (rightR (true, true, [65], [42], [40, 41, 73]) && (!decide (([60, 99, 108, 105, 110, 105, 116, 62] : List UInt8) = [60, 99, 108, 105, 110, 105, 116, 62]) && (mat [65] [65] && (mat [42] [60, 99, 108, 105, 110, 105, 116, 62] && mat [40, 41, 73] [40, 41, 73]))))) = false
    rw [decide_eq_true rfl]
    simp
  have hC1 : Q18.rules_Class.f false false ⟨#[66, 63]⟩ ⟨#[]⟩ ⟨#[]⟩ ⟨#[66, 120]⟩ = some true := by
    refine (classB_eq false false _ _ _ _ (by decide) (by decide) (by decide) (by decide)).trans (congrArg some ?_)
    show (!false && (rightR (false, false, [66, 63], [], []) && mat [66, 63] [66, 120])) = true
    rw [hRB, m4]
    rfl
  have hC2 : Q18.rules_Class.f true true ⟨#[65]⟩ ⟨#[42]⟩ ⟨#[40, 41, 73]⟩ ⟨#[65]⟩ = some false := rfl
  have hRt : rules_Right.f true true ⟨#[65]⟩ ⟨#[42]⟩ ⟨#[40, 41, 73]⟩ = some true := (ruleF_eq true true _ _ _ (by decide) (by decide) (by decide)).trans (congrArg some hRA)
  have r0 : rd_T66 [ruleA, ruleB] 0 = ⟨true, true, ⟨#[65]⟩, ⟨#[42]⟩, ⟨#[40, 41, 73]⟩⟩ := rfl
  have r1 : rd_T66 [ruleA, ruleB] 1 = ⟨false, false, ⟨#[66, 63]⟩, ⟨#[]⟩, ⟨#[]⟩⟩ := rfl
  unfold Q18.secateurlaw22_live.f
  rw [hP1, Option.bind_some, hP2, Option.bind_some]
  dsimp only
  rw [hPr, Option.bind_some]
  dsimp only
  rw [r0, r1]
  dsimp only
  rw [hM1, hM2, hC1, hC2, hRt]
  clear hP1 hP2 hPr hM1 hM2 hC1 hC2 hRt r0 r1 hRA hRB m0 m1 m2 m3 m4
  decide +kernel
def secateurlaw22_live.f : Option Bool := some true
theorem secateurlaw22_live.calls (r : Bool) (w : World) (hGMaxL : MaxL w) (h : secateurlaw22_live.f = some r) :
    Calls Tryd.prog 48 #[] w fun e w' => e = .returned (.bool r) ∧ Below w.heap.size w w' := by
  obtain rfl := Option.some.inj h
  exact Q18.secateurlaw22_live.calls 3 true w hGMaxL live_eq rfl
end Go.Proofs.YtmlbfepibfobaaaDoor.Hand
end
