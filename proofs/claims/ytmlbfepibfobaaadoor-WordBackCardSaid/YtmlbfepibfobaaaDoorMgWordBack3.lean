import Derived.Test.YtmlbfepibfobaaaDoorMgWordBack2
import Derived.Test.YtmlbfepibfobaaaDoorRows
import Derived.OpenShut
import Derived.SliceStrings
import Derived.ProofKit
import Derived.Test.YtmlbfepibfobaaaDoorWMore
section
-- Written by this session's program layer.py (the kit's print, turned), not by hand.
namespace Go.Proofs.YtmlbfepibfobaaaDoor.PWordBack
open Go.RowKit Go.Proofs.YtmlbfepibfobaaaDoorW.PrintWords Go.Proofs.YtmlbfepibfobaaaDoorW.PrintLast Go.Proofs.YtmlbfepibfobaaaDoorW.PrintMore Go.Proofs.YtmlbfepibfobaaaDoor.Hand
attribute [local go_sem] max2_int min2_int max_two min_two max_three min_three max_four min_four   -- for this text's walks alone
set_option linter.unusedVariables false
set_option linter.unusedSimpArgs false

/-! ### secateurlaw04_WordBack: function 10 -/
mutual
def secateurlaw04_WordBack.j0 : Nat → List ByteArray → ByteArray → Bool → Option (Bool)
  | 0, _, _, _ => none
  | k + 1, x0, x1, x21 => if x21 = true then ((secateurlaw04_live.f).bind fun t102 => (some t102)) else ((word_Lines.f x1).bind fun bt103 => ((secateurlaw04_live.f).bind fun t109 => (if t109 = true then (if bt103.2.1 = 0 then ((word_Text.f bt103.1).bind fun t110 => (if t110.toList = x1.toList then ((word_Fields.f x1).bind fun t111 => ((word_Line.f t111).bind fun t114 => (secateurlaw04_WordBack.j1 k x0 (t114.toList != x1.toList)))) else (secateurlaw04_WordBack.j1 k x0 true))) else ((word_Fields.f x1).bind fun t115 => ((word_Line.f t115).bind fun t118 => (secateurlaw04_WordBack.j1 k x0 (t118.toList != x1.toList))))) else (secateurlaw04_WordBack.j1 k x0 true))))
def secateurlaw04_WordBack.j1 : Nat → List ByteArray → Bool → Option (Bool)
  | 0, _, _ => none
  | k + 1, x0, x47 => if x47 = true then (some false) else (secateurlaw04_WordBack.l0 k x0 true false 0 0)
def secateurlaw04_WordBack.l0 : Nat → List ByteArray → Bool → Bool → Int → Int → Option (Bool)
  | 0, _, _, _, _, _ => none
  | k + 1, x0, x7, x8, x9, x10 => if x10 < (x0.length : Int) then (if 0 ≤ x10 then (if ((rdOf ByteArray.empty x0 x10).size : Int) > 1000 then (secateurlaw04_WordBack.j3 k x0 x7 x8 (wrap64 (x9 + ((rdOf ByteArray.empty x0 x10).size : Int))) x10 true) else (secateurlaw04_WordBack.j3 k x0 x7 x8 (wrap64 (x9 + ((rdOf ByteArray.empty x0 x10).size : Int))) x10 (decide ((wrap64 (x9 + ((rdOf ByteArray.empty x0 x10).size : Int))) > 20000)))) else (none)) else ((word_Text.f x0).bind fun t127 => ((word_Lines.f t127).bind fun bt128 => ((secateurref04_Text.f x0).bind fun t134 => (if t127.toList = t134.toList then ((word_Line.f x0).bind fun t135 => ((secateurref04_Line.f x0).bind fun t136 => (if t135.toList = t136.toList then (if x7 = true then (if bt128.2.1 = 0 then ((secateurref01_SameTexts.f bt128.1 x0).bind fun t137 => (secateurlaw04_WordBack.j5 k x0 x8 (!t137))) else (secateurlaw04_WordBack.j5 k x0 x8 true)) else (secateurlaw04_WordBack.j5 k x0 x8 false)) else (secateurlaw04_WordBack.j5 k x0 x8 true)))) else (secateurlaw04_WordBack.j5 k x0 x8 true)))))
def secateurlaw04_WordBack.j3 : Nat → List ByteArray → Bool → Bool → Int → Int → Bool → Option (Bool)
  | 0, _, _, _, _, _, _ => none
  | k + 1, x0, x7, x8, x9, x10, x70 => if x70 = true then (some true) else (secateurlaw04_WordBack.l1 k x0 x7 x8 x9 x10 0)
def secateurlaw04_WordBack.l1 : Nat → List ByteArray → Bool → Bool → Int → Int → Int → Option (Bool)
  | 0, _, _, _, _, _, _ => none
  | k + 1, x0, x7, x8, x9, x10, x11 => if 0 ≤ x10 then (if x10 < (x0.length : Int) then (if x11 < ((rdOf ByteArray.empty x0 x10).size : Int) then (if x7 = true then (if 0 ≤ x11 then (if (bt (rdOf ByteArray.empty x0 x10) x11) ≥ 32 then (if x8 = true then (secateurlaw04_WordBack.l1 k x0 (decide ((bt (rdOf ByteArray.empty x0 x10) x11) ≤ 126)) true x9 x10 (wrap64 (x11 + 1))) else (secateurlaw04_WordBack.l1 k x0 (decide ((bt (rdOf ByteArray.empty x0 x10) x11) ≤ 126)) ((bt (rdOf ByteArray.empty x0 x10) x11) == 32) x9 x10 (wrap64 (x11 + 1)))) else (if x8 = true then (secateurlaw04_WordBack.l1 k x0 false true x9 x10 (wrap64 (x11 + 1))) else (secateurlaw04_WordBack.l1 k x0 false ((bt (rdOf ByteArray.empty x0 x10) x11) == 32) x9 x10 (wrap64 (x11 + 1))))) else (none)) else (if x8 = true then (secateurlaw04_WordBack.l1 k x0 false true x9 x10 (wrap64 (x11 + 1))) else (if 0 ≤ x11 then (secateurlaw04_WordBack.l1 k x0 false ((bt (rdOf ByteArray.empty x0 x10) x11) == 32) x9 x10 (wrap64 (x11 + 1))) else (none)))) else (secateurlaw04_WordBack.l0 k x0 x7 x8 x9 (wrap64 (x10 + 1)))) else (none)) else (none)
def secateurlaw04_WordBack.j5 : Nat → List ByteArray → Bool → Bool → Option (Bool)
  | 0, _, _, _ => none
  | k + 1, x0, x8, x140 => if x140 = true then (some false) else (if x8 = true then (some true) else (if (x0.length : Int) = 0 then (some true) else ((word_Line.f x0).bind fun t138 => ((word_Fields.f t138).bind fun t139 => ((secateurref01_SameTexts.f t139 x0).bind fun t142 => (some t142))))))
end
def secateurlaw04_WordBack.f (k : Nat) (l0 : List ByteArray) (a1 : ByteArray) : Option (Bool) := (secateurlaw04_great.f a1).bind fun t101 => (if t101 = true then (secateurlaw04_WordBack.j0 k l0 a1 true) else (secateurlaw04_WordBack.j0 k l0 a1 (decide ((l0.length : Int) > 100))))
theorem secateurlaw04_WordBack.mono_l : ∀ k, (∀ y0 y1 y2, LeO (secateurlaw04_WordBack.j0 k y0 y1 y2) (secateurlaw04_WordBack.j0 (k + 1) y0 y1 y2)) ∧ (∀ y0 y1, LeO (secateurlaw04_WordBack.j1 k y0 y1) (secateurlaw04_WordBack.j1 (k + 1) y0 y1)) ∧ (∀ y0 y1 y2 y3 y4, LeO (secateurlaw04_WordBack.l0 k y0 y1 y2 y3 y4) (secateurlaw04_WordBack.l0 (k + 1) y0 y1 y2 y3 y4)) ∧ (∀ y0 y1 y2 y3 y4 y5, LeO (secateurlaw04_WordBack.j3 k y0 y1 y2 y3 y4 y5) (secateurlaw04_WordBack.j3 (k + 1) y0 y1 y2 y3 y4 y5)) ∧ (∀ y0 y1 y2 y3 y4 y5, LeO (secateurlaw04_WordBack.l1 k y0 y1 y2 y3 y4 y5) (secateurlaw04_WordBack.l1 (k + 1) y0 y1 y2 y3 y4 y5)) ∧ (∀ y0 y1 y2, LeO (secateurlaw04_WordBack.j5 k y0 y1 y2) (secateurlaw04_WordBack.j5 (k + 1) y0 y1 y2))
  | 0 => ⟨fun _ _ _ r h => by simp [secateurlaw04_WordBack.j0] at h, fun _ _ r h => by simp [secateurlaw04_WordBack.j1] at h, fun _ _ _ _ _ r h => by simp [secateurlaw04_WordBack.l0] at h, fun _ _ _ _ _ _ r h => by simp [secateurlaw04_WordBack.j3] at h, fun _ _ _ _ _ _ r h => by simp [secateurlaw04_WordBack.l1] at h, fun _ _ _ r h => by simp [secateurlaw04_WordBack.j5] at h⟩
  | k + 1 => by
    obtain ⟨ih0, ih1, ih2, ih3, ih4, ih5⟩ := secateurlaw04_WordBack.mono_l k
    refine ⟨?_, ?_, ?_, ?_, ?_, ?_⟩
    · intro y0 y1 y2
      unfold secateurlaw04_WordBack.j0
      repeat' first
      | (with_reducible exact ih0 _ _ _)
      | (with_reducible exact ih1 _ _)
      | (with_reducible exact ih2 _ _ _ _ _)
      | (with_reducible exact ih3 _ _ _ _ _ _)
      | (with_reducible exact ih4 _ _ _ _ _ _)
      | (with_reducible exact ih5 _ _ _)
      | (with_reducible exact LeO.refl _)
      | (with_reducible exact LeO.none _)
      | (with_reducible refine LeO.ite ?_ ?_)
      | (with_reducible refine LeO.bind ?_ (fun _ => ?_))
      | exact ih0 _ _ _
      | exact ih1 _ _
      | exact ih2 _ _ _ _ _
      | exact ih3 _ _ _ _ _ _
      | exact ih4 _ _ _ _ _ _
      | exact ih5 _ _ _
      | exact LeO.none _
      | refine LeO.ite ?_ ?_
      | refine LeO.bind ?_ (fun _ => ?_)
    · intro y0 y1
      unfold secateurlaw04_WordBack.j1
      repeat' first
      | (with_reducible exact ih0 _ _ _)
      | (with_reducible exact ih1 _ _)
      | (with_reducible exact ih2 _ _ _ _ _)
      | (with_reducible exact ih3 _ _ _ _ _ _)
      | (with_reducible exact ih4 _ _ _ _ _ _)
      | (with_reducible exact ih5 _ _ _)
      | (with_reducible exact LeO.refl _)
      | (with_reducible exact LeO.none _)
      | (with_reducible refine LeO.ite ?_ ?_)
      | (with_reducible refine LeO.bind ?_ (fun _ => ?_))
      | exact ih0 _ _ _
      | exact ih1 _ _
      | exact ih2 _ _ _ _ _
      | exact ih3 _ _ _ _ _ _
      | exact ih4 _ _ _ _ _ _
      | exact ih5 _ _ _
      | exact LeO.none _
      | refine LeO.ite ?_ ?_
      | refine LeO.bind ?_ (fun _ => ?_)
    · intro y0 y1 y2 y3 y4
      unfold secateurlaw04_WordBack.l0
      repeat' first
      | (with_reducible exact ih0 _ _ _)
      | (with_reducible exact ih1 _ _)
      | (with_reducible exact ih2 _ _ _ _ _)
      | (with_reducible exact ih3 _ _ _ _ _ _)
      | (with_reducible exact ih4 _ _ _ _ _ _)
      | (with_reducible exact ih5 _ _ _)
      | (with_reducible exact LeO.refl _)
      | (with_reducible exact LeO.none _)
      | (with_reducible refine LeO.ite ?_ ?_)
      | (with_reducible refine LeO.bind ?_ (fun _ => ?_))
      | exact ih0 _ _ _
      | exact ih1 _ _
      | exact ih2 _ _ _ _ _
      | exact ih3 _ _ _ _ _ _
      | exact ih4 _ _ _ _ _ _
      | exact ih5 _ _ _
      | exact LeO.none _
      | refine LeO.ite ?_ ?_
      | refine LeO.bind ?_ (fun _ => ?_)
    · intro y0 y1 y2 y3 y4 y5
      unfold secateurlaw04_WordBack.j3
      repeat' first
      | (with_reducible exact ih0 _ _ _)
      | (with_reducible exact ih1 _ _)
      | (with_reducible exact ih2 _ _ _ _ _)
      | (with_reducible exact ih3 _ _ _ _ _ _)
      | (with_reducible exact ih4 _ _ _ _ _ _)
      | (with_reducible exact ih5 _ _ _)
      | (with_reducible exact LeO.refl _)
      | (with_reducible exact LeO.none _)
      | (with_reducible refine LeO.ite ?_ ?_)
      | (with_reducible refine LeO.bind ?_ (fun _ => ?_))
      | exact ih0 _ _ _
      | exact ih1 _ _
      | exact ih2 _ _ _ _ _
      | exact ih3 _ _ _ _ _ _
      | exact ih4 _ _ _ _ _ _
      | exact ih5 _ _ _
      | exact LeO.none _
      | refine LeO.ite ?_ ?_
      | refine LeO.bind ?_ (fun _ => ?_)
    · intro y0 y1 y2 y3 y4 y5
      unfold secateurlaw04_WordBack.l1
      repeat' first
      | (with_reducible exact ih0 _ _ _)
      | (with_reducible exact ih1 _ _)
      | (with_reducible exact ih2 _ _ _ _ _)
      | (with_reducible exact ih3 _ _ _ _ _ _)
      | (with_reducible exact ih4 _ _ _ _ _ _)
      | (with_reducible exact ih5 _ _ _)
      | (with_reducible exact LeO.refl _)
      | (with_reducible exact LeO.none _)
      | (with_reducible refine LeO.ite ?_ ?_)
      | (with_reducible refine LeO.bind ?_ (fun _ => ?_))
      | exact ih0 _ _ _
      | exact ih1 _ _
      | exact ih2 _ _ _ _ _
      | exact ih3 _ _ _ _ _ _
      | exact ih4 _ _ _ _ _ _
      | exact ih5 _ _ _
      | exact LeO.none _
      | refine LeO.ite ?_ ?_
      | refine LeO.bind ?_ (fun _ => ?_)
    · intro y0 y1 y2
      unfold secateurlaw04_WordBack.j5
      repeat' first
      | (with_reducible exact ih0 _ _ _)
      | (with_reducible exact ih1 _ _)
      | (with_reducible exact ih2 _ _ _ _ _)
      | (with_reducible exact ih3 _ _ _ _ _ _)
      | (with_reducible exact ih4 _ _ _ _ _ _)
      | (with_reducible exact ih5 _ _ _)
      | (with_reducible exact LeO.refl _)
      | (with_reducible exact LeO.none _)
      | (with_reducible refine LeO.ite ?_ ?_)
      | (with_reducible refine LeO.bind ?_ (fun _ => ?_))
      | exact ih0 _ _ _
      | exact ih1 _ _
      | exact ih2 _ _ _ _ _
      | exact ih3 _ _ _ _ _ _
      | exact ih4 _ _ _ _ _ _
      | exact ih5 _ _ _
      | exact LeO.none _
      | refine LeO.ite ?_ ?_
      | refine LeO.bind ?_ (fun _ => ?_)
theorem secateurlaw04_WordBack.mono : ∀ a0 a1 k, LeO (secateurlaw04_WordBack.f k a0 a1) (secateurlaw04_WordBack.f (k + 1) a0 a1) := by
  intro a0 a1 k
  obtain ⟨ih0, ih1, ih2, ih3, ih4, ih5⟩ := secateurlaw04_WordBack.mono_l k
  unfold secateurlaw04_WordBack.f
  repeat' first
      | (with_reducible exact ih0 _ _ _)
      | (with_reducible exact ih1 _ _)
      | (with_reducible exact ih2 _ _ _ _ _)
      | (with_reducible exact ih3 _ _ _ _ _ _)
      | (with_reducible exact ih4 _ _ _ _ _ _)
      | (with_reducible exact ih5 _ _ _)
      | (with_reducible exact LeO.refl _)
      | (with_reducible exact LeO.none _)
      | (with_reducible refine LeO.ite ?_ ?_)
      | (with_reducible refine LeO.bind ?_ (fun _ => ?_))
      | exact ih0 _ _ _
      | exact ih1 _ _
      | exact ih2 _ _ _ _ _
      | exact ih3 _ _ _ _ _ _
      | exact ih4 _ _ _ _ _ _
      | exact ih5 _ _ _
      | exact LeO.none _
      | refine LeO.ite ?_ ?_
      | refine LeO.bind ?_ (fun _ => ?_)
set_option maxHeartbeats 8000000 in
set_option maxRecDepth 100000 in
theorem secateurlaw04_WordBack.calls (k : Nat) (A0 : Option Addr) (c0 : Nat) (l0 : List ByteArray) (a1 : ByteArray) (r : Bool) (w : World) (hr0 : Kd.C Kd.string w A0 l0.length l0) (hc0 : l0.length ≤ c0) (hGMaxL : MaxL w) (h : secateurlaw04_WordBack.f k l0 a1 = some r) :
    Calls Tryd.prog 10 #[.slice A0 l0.length c0, .string a1] w fun e w' => e = .returned (.bool r) ∧ Below w.heap.size w w' := by
  have hu31 := Tryd.underlying31
  have HGMaxL := Aside0.mk hGMaxL
  clear hGMaxL
  have HR0 := Aside0.mk hr0
  have HC0 := Aside0.mk hc0
  clear hr0 hc0
  have HB := Aside0.mk (Below.refl w.heap.size w)
  have H : ((secateurlaw04_great.f a1).bind fun t101 => (if t101 = true then (secateurlaw04_WordBack.j0 k l0 a1 true) else (secateurlaw04_WordBack.j0 k l0 a1 (decide ((l0.length : Int) > 100))))) = some r := h
  clear h
  have HC3 := Aside0.mk H
  clear H
  go_enter Tryd.func10, Tryd.ntmps10
  go_upto_region 1 with (fail)
  go_cut [21] (fun v21 wc => ∃ (kq : Nat) (x21_2 : Bool), v21 = .bool x21_2 ∧ Aside0 (secateurlaw04_WordBack.j0 kq l0 a1 x21_2 = some r) ∧ Aside0 (kq ≤ k) ∧ Aside0 (Below w.heap.size w wc))
  case first =>
    have H := HC3.out
    clear HC3
    replace H := Option.bind_eq_some_iff.mp H
    obtain ⟨t101, A40, H⟩ := H
    replace H : (if t101 = true then (secateurlaw04_WordBack.j0 k l0 a1 true) else (secateurlaw04_WordBack.j0 k l0 a1 (decide ((l0.length : Int) > 100)))) = some r := H
    have A4 := Aside0.mk A40
    clear A40
    by_cases c5 : t101 = true
    · subst c5
      have H1 : (secateurlaw04_WordBack.j0 k l0 a1 true) = some r := by rw [if_pos rfl] at H; exact H
      clear H
      have H := H1
      clear H1
      have H' := Aside0.mk H
      clear H
      go_wp2_with (first | ((with_reducible refine gate_callee (f := 38) rfl ?_); refine goesL_ (some 16) rfl rfl Tryd.func38 (by kernel_rfl) rfl #[.string a1] rfl (by (try simp only [List.map_toArray, List.map_cons, List.map_nil]); first | done | rfl | (simp only [List.length_drop, List.length_take]; rfl)) ?_; (with_reducible refine (secateurlaw04_great.calls a1 true _ A4.out).mono ?_); rintro e w' ⟨rfl, ⟨nd, rfl⟩⟩; refine ⟨_, rfl, ?_⟩))
      go_meet
      case rel => exact ⟨_, (true), (by first | rfl | (simp; done) | (simp [*]; done)), H', ⟨by first | omega | exact Nat.le_refl _⟩, ⟨by repeat (first | (with_reducible first | exact HB.out | apply below_alloc | apply pw_below_drewN | apply below_drew1) | exact HB.out)⟩⟩
    · replace c5 := Bool.eq_false_iff.mpr c5
      subst c5
      have H1 : (secateurlaw04_WordBack.j0 k l0 a1 (decide ((l0.length : Int) > 100))) = some r := by rw [if_neg (show ¬ (false = true) by decide)] at H; exact H
      clear H
      have H := H1
      clear H1
      have H' := Aside0.mk H
      clear H
      go_wp2_with (first | ((with_reducible refine gate_callee (f := 38) rfl ?_); refine goesL_ (some 16) rfl rfl Tryd.func38 (by kernel_rfl) rfl #[.string a1] rfl (by (try simp only [List.map_toArray, List.map_cons, List.map_nil]); first | done | rfl | (simp only [List.length_drop, List.length_take]; rfl)) ?_; (with_reducible refine (secateurlaw04_great.calls a1 false _ A4.out).mono ?_); rintro e w' ⟨rfl, ⟨nd, rfl⟩⟩; refine ⟨_, rfl, ?_⟩))
      go_meet
      case rel => exact ⟨_, (decide ((l0.length : Int) > 100)), (by first | rfl | (simp; done) | (simp [*]; done)), H', ⟨by first | omega | exact Nat.le_refl _⟩, ⟨by repeat (first | (with_reducible first | exact HB.out | apply below_alloc | apply pw_below_drewN | apply below_drew1) | exact HB.out)⟩⟩
  case rest =>
    clear HC3
    try clear c1
    try clear p2
    try clear c3
    try clear c5
    obtain ⟨kq, x21_2, rfl, HA, HJ2, HB⟩ := hcut
    cases kq with
    | zero => exact absurd HA.out (by simp [secateurlaw04_WordBack.j0])
    | succ kj2 =>
      have H := HA.out
      clear HA
      simp only [secateurlaw04_WordBack.j0] at H
      by_cases c6 : x21_2 = true
      · subst c6
        have H1 : ((secateurlaw04_live.f).bind fun t102 => (some t102)) = some r := by rw [if_pos rfl] at H; exact H
        clear H
        have H := H1
        clear H1
        replace H := Option.bind_eq_some_iff.mp H
        obtain ⟨t102, A70, H⟩ := H
        replace H : (some t102) = some r := H
        have A7 := Aside0.mk A70
        clear A70
        obtain rfl := Option.some.inj H
        go_wp2_with (first | ((with_reducible refine gate_callee (f := 39) rfl ?_); refine goesL_ (some 22) rfl rfl Tryd.func39 (by kernel_rfl) rfl #[] rfl (by (try simp only [List.map_toArray, List.map_cons, List.map_nil]); first | done | rfl | (simp only [List.length_drop, List.length_take]; rfl)) ?_; (with_reducible refine (secateurlaw04_live.calls  t102 _ ?side1 A7.out).mono ?_); (case side1 => exact MaxL.below HGMaxL.out (by repeat (first | (with_reducible first | exact HB.out | apply below_alloc | apply pw_below_drewN | apply below_drew1) | exact HB.out))); rintro e w8 ⟨rfl, hb⟩; refine ⟨_, rfl, ?_⟩; have n0_ := Aside0.mk (below_step (by repeat (first | (with_reducible first | exact HB.out | apply below_alloc | apply pw_below_drewN | apply below_drew1) | exact HB.out)) hb); clear HB; have HB := n0_; clear n0_; (try clear hb); (try clear hb2); (try clear hk); (try clear hi)))
        go_ret
        exact ⟨by first | rfl | (simp [errW_none, errW_some] <;> rfl) | (simp [*, errW_none, errW_some] <;> rfl), by repeat (first | (with_reducible first | exact HB.out | apply below_alloc | apply pw_below_drewN | apply below_drew1) | exact HB.out)⟩
      · replace c6 := Bool.eq_false_iff.mpr c6
        subst c6
        have H1 : ((word_Lines.f a1).bind fun bt103 => ((secateurlaw04_live.f).bind fun t109 => (if t109 = true then (if bt103.2.1 = 0 then ((word_Text.f bt103.1).bind fun t110 => (if t110.toList = a1.toList then ((word_Fields.f a1).bind fun t111 => ((word_Line.f t111).bind fun t114 => (secateurlaw04_WordBack.j1 kj2 l0 (t114.toList != a1.toList)))) else (secateurlaw04_WordBack.j1 kj2 l0 true))) else ((word_Fields.f a1).bind fun t115 => ((word_Line.f t115).bind fun t118 => (secateurlaw04_WordBack.j1 kj2 l0 (t118.toList != a1.toList))))) else (secateurlaw04_WordBack.j1 kj2 l0 true)))) = some r := by rw [if_neg (show ¬ (false = true) by decide)] at H; exact H
        clear H
        have H := H1
        clear H1
        replace H := Option.bind_eq_some_iff.mp H
        obtain ⟨⟨t103, t106, t107⟩, A90, H⟩ := H
        replace H : ((secateurlaw04_live.f).bind fun t109 => (if t109 = true then (if t106 = 0 then ((word_Text.f t103).bind fun t110 => (if t110.toList = a1.toList then ((word_Fields.f a1).bind fun t111 => ((word_Line.f t111).bind fun t114 => (secateurlaw04_WordBack.j1 kj2 l0 (t114.toList != a1.toList)))) else (secateurlaw04_WordBack.j1 kj2 l0 true))) else ((word_Fields.f a1).bind fun t115 => ((word_Line.f t115).bind fun t118 => (secateurlaw04_WordBack.j1 kj2 l0 (t118.toList != a1.toList))))) else (secateurlaw04_WordBack.j1 kj2 l0 true))) = some r := H
        have A9 := Aside0.mk A90
        clear A90
        have HC10 := Aside0.mk H
        clear H
        go_upto_region 4 with (first | ((with_reducible refine gate_callee (f := 40) rfl ?_); refine goesL_ (some 25) rfl rfl Tryd.func40 (by kernel_rfl) rfl #[.string a1] rfl (by (try simp only [List.map_toArray, List.map_cons, List.map_nil]); first | done | rfl | (simp only [List.length_drop, List.length_take]; rfl)) ?_; (with_reducible refine (word_Lines.calls a1 t103 t106 t107 _ ?side1 A9.out).mono ?_); (case side1 => exact MaxL.below HGMaxL.out (by repeat (first | (with_reducible first | exact HB.out | apply below_alloc | apply pw_below_drewN | apply below_drew1) | exact HB.out))); rintro e w11 ⟨v104, rfl, ho0, hb⟩; refine ⟨_, rfl, ?_⟩; have n0_ := Aside0.mk (Kd.R_lower ho0 (below_size (by repeat (first | (with_reducible first | exact HB.out | apply below_alloc | apply pw_below_drewN | apply below_drew1) | exact HB.out)))); have n1_ := Aside0.mk (below_step (by repeat (first | (with_reducible first | exact HB.out | apply below_alloc | apply pw_below_drewN | apply below_drew1) | exact HB.out)) hb); clear HB; have HO105 := n0_; have HB := n1_; clear n0_ n1_; (try clear hb); (try clear hb2); (try clear hk); (try clear hi); (try clear ho0)) | ((with_reducible refine gate_dst (N := 6) rfl ?_); (try (refine gate_guard (by rfl) ?_; dsimp only)); refine box_event ?hg (N := 6) ?hd (cs := #[.int .i64 0, .int .i64 0]) (t := 31) ?hr ?_; (case hd => rfl); (case hg => rfl); (case hr => first | (go_simp; done) | (go_simp; rfl)); intro gb108 hg w12 hbox hb; have n0_ := Aside0.mk (Kd.R_below (by (with_reducible repeat (first | apply Kd.R_alloc | apply Kd.R_drewN | apply Kd.R_drew)); exact HO105.out) hb); have n1_ := Aside0.mk (below_step (by repeat (first | (with_reducible first | exact HB.out | apply below_alloc | apply pw_below_drewN | apply below_drew1) | exact HB.out)) hb); have n2_ := Aside0.mk (hbox); have n3_ := Aside0.mk ((by rw [hg]; exact (below_size (by repeat (first | (with_reducible first | exact HB.out | apply below_alloc | apply pw_below_drewN | apply below_drew1) | exact HB.out))) : w.heap.size ≤ gb108)); have n4_ := Aside0.mk ((by rw [hg]; exact (below_size (by repeat (first | (with_reducible first | exact HB.out | apply below_alloc | apply pw_below_drewN | apply below_drew1) | exact HB.out))) : w.heap.size ≤ gb108)); clear HO105; clear HB; have HO105 := n0_; have HB := n1_; have BK108 := n2_; have GW108 := n3_; have GE108 := n4_; clear n0_ n1_ n2_ n3_ n4_; clear hb hbox hg; have hcz13_0 : w12.cell? ⟨gb108, 0, none⟩ = some (.int .i64 0) := (blk_cell BK108.out 0).trans rfl; have hcz13_1 : w12.cell? ⟨gb108, 1, none⟩ = some (.int .i64 0) := (blk_cell BK108.out 1).trans rfl; have hfz13_0 := blk_frozen BK108.out 0; have hfz13_1 := blk_frozen BK108.out 1))
        (try simp only [Act.put, List.setIfInBounds_toArray, List.set_cons_zero, List.set_cons_succ])
        go_cut [47] (fun v47 wc => ∃ (kq : Nat) (x47_9 : Bool), v47 = .bool x47_9 ∧ Aside0 (secateurlaw04_WordBack.j1 kq l0 x47_9 = some r) ∧ Aside0 (kq ≤ kj2) ∧ Aside0 (wc.heap[gb108]? = some (.cells #[.int .i64 t106, .int .i64 t107] 31 (0, 0))) ∧ Aside0 (Below w.heap.size w wc))
        case first =>
          have H := HC10.out
          clear HC10
          replace H := Option.bind_eq_some_iff.mp H
          obtain ⟨t109, A140, H⟩ := H
          replace H : (if t109 = true then (if t106 = 0 then ((word_Text.f t103).bind fun t110 => (if t110.toList = a1.toList then ((word_Fields.f a1).bind fun t111 => ((word_Line.f t111).bind fun t114 => (secateurlaw04_WordBack.j1 kj2 l0 (t114.toList != a1.toList)))) else (secateurlaw04_WordBack.j1 kj2 l0 true))) else ((word_Fields.f a1).bind fun t115 => ((word_Line.f t115).bind fun t118 => (secateurlaw04_WordBack.j1 kj2 l0 (t118.toList != a1.toList))))) else (secateurlaw04_WordBack.j1 kj2 l0 true)) = some r := H
          have A14 := Aside0.mk A140
          clear A140
          by_cases c15 : t109 = true
          · subst c15
            have H1 : (if t106 = 0 then ((word_Text.f t103).bind fun t110 => (if t110.toList = a1.toList then ((word_Fields.f a1).bind fun t111 => ((word_Line.f t111).bind fun t114 => (secateurlaw04_WordBack.j1 kj2 l0 (t114.toList != a1.toList)))) else (secateurlaw04_WordBack.j1 kj2 l0 true))) else ((word_Fields.f a1).bind fun t115 => ((word_Line.f t115).bind fun t118 => (secateurlaw04_WordBack.j1 kj2 l0 (t118.toList != a1.toList))))) = some r := by rw [if_pos rfl] at H; exact H
            clear H
            have H := H1
            clear H1
            by_cases c16 : t106 = 0
            · rw [if_pos c16] at H
              have c16b0 : (t106 == 0) = true := beq_iff_eq.mpr c16
              have c16b1 : (t106 != 0) = false := bne_eq_false_iff_eq.mpr c16
              clear c16
              (first | rw [c16b0] | rw [c16b1] | (simp only [i64_w, i32_w]; rw [c16b0]) | skip)
              replace H := Option.bind_eq_some_iff.mp H
              obtain ⟨t110, A170, H⟩ := H
              replace H : (if t110.toList = a1.toList then ((word_Fields.f a1).bind fun t111 => ((word_Line.f t111).bind fun t114 => (secateurlaw04_WordBack.j1 kj2 l0 (t114.toList != a1.toList)))) else (secateurlaw04_WordBack.j1 kj2 l0 true)) = some r := H
              have A17 := Aside0.mk A170
              clear A170
              by_cases c18 : t110.toList = a1.toList
              · rw [if_pos c18] at H
                have c18b0 : (t110.toList == a1.toList) = true := beq_iff_eq.mpr c18
                have c18b1 : (t110.toList != a1.toList) = false := bne_eq_false_iff_eq.mpr c18
                clear c18
                replace H := Option.bind_eq_some_iff.mp H
                obtain ⟨t111, A190, H⟩ := H
                replace H : ((word_Line.f t111).bind fun t114 => (secateurlaw04_WordBack.j1 kj2 l0 (t114.toList != a1.toList))) = some r := H
                have A19 := Aside0.mk A190
                clear A190
                replace H := Option.bind_eq_some_iff.mp H
                obtain ⟨t114, A200, H⟩ := H
                replace H : (secateurlaw04_WordBack.j1 kj2 l0 (t114.toList != a1.toList)) = some r := H
                have A20 := Aside0.mk A200
                clear A200
                have H' := Aside0.mk H
                clear H
                go_wp2_with (first | ((with_reducible refine gate_callee (f := 39) rfl ?_); refine goesL_ (some 28) rfl rfl Tryd.func39 (by kernel_rfl) rfl #[] rfl (by (try simp only [List.map_toArray, List.map_cons, List.map_nil]); first | done | rfl | (simp only [List.length_drop, List.length_take]; rfl)) ?_; (with_reducible refine (secateurlaw04_live.calls  true _ ?side1 A14.out).mono ?_); (case side1 => exact MaxL.below HGMaxL.out (by repeat (first | (with_reducible first | exact HB.out | apply below_alloc | apply pw_below_drewN | apply below_drew1 | refine below_set ?_ GE108.out) | exact HB.out))); rintro e w21 ⟨rfl, hb⟩; refine ⟨_, rfl, ?_⟩; have n0_ := Aside0.mk (Kd.R_below (by (with_reducible repeat (first | apply Kd.R_alloc | apply Kd.R_drewN | apply Kd.R_drew)); exact (Kd.R_mono (Kd.R_far (p := ⟨gb108, 1, none⟩) (Kd.R_far (p := ⟨gb108, 0, none⟩) (Kd.R_types HO105.out BK108.out (by decide)) (fun _ hk => hk.2) (.int .i64 t106)) (fun _ hk => hk.2) (.int .i64 t107)) (fun _ h_ => h_.1))) hb); have n1_ := Aside0.mk (blk_below (g := gb108) (o := .cells #[.int .i64 t106, .int .i64 t107] 31 (0, 0)) (by (with_reducible repeat (first | refine blk_drewN ?_ _ | refine blk_drew ?_ | refine blk_alloc ?_ _)); refine blk_put (cs := #[.int .i64 t106, .int .i64 0]) ?_ 1 _ rfl; (with_reducible repeat (first | refine blk_drewN ?_ _ | refine blk_drew ?_ | refine blk_alloc ?_ _)); refine blk_put (cs := #[.int .i64 0, .int .i64 0]) ?_ 0 _ rfl; (with_reducible repeat (first | refine blk_drewN ?_ _ | refine blk_drew ?_ | refine blk_alloc ?_ _)); exact BK108.out) hb); have n2_ := Aside0.mk (below_step (by repeat (first | (with_reducible first | exact HB.out | apply below_alloc | apply pw_below_drewN | apply below_drew1 | refine below_set ?_ GE108.out) | exact HB.out)) hb); clear HO105; clear BK108; clear HB; have HO105 := n0_; have BK108 := n1_; have HB := n2_; clear n0_ n1_ n2_; (try clear hb); (try clear hb2); (try clear hk); (try clear hi); have hcz22_0 : w21.cell? ⟨gb108, 0, none⟩ = some (.int .i64 t106) := (blk_cell BK108.out 0).trans rfl; have hcz22_1 : w21.cell? ⟨gb108, 1, none⟩ = some (.int .i64 t107) := (blk_cell BK108.out 1).trans rfl; have hfz22_0 := blk_frozen BK108.out 0; have hfz22_1 := blk_frozen BK108.out 1; obtain ⟨Ao23, co23, eo23⟩ := Kd.R_slice HO105.out; subst eo23) | (go_at_call 37; (with_reducible refine (word_Text.calls _ _ t103 t110 _ ?side1 ?side2 A17.out).mono ?_); (case side1 => repeat (first | exact (Kd.R_reads' HO105.out).2.2 | (with_reducible refine Kd.C_alloc ?_ _) | (with_reducible refine Kd.C_drewN ?_ _) | (with_reducible refine Kd.C_drew ?_))); (case side2 => exact (Kd.R_reads' HO105.out).2.1); rintro e w24 ⟨rfl, hb⟩; have n0_ := Aside0.mk (Kd.R_below (by (with_reducible repeat (first | apply Kd.R_alloc | apply Kd.R_drewN | apply Kd.R_drew)); exact HO105.out) hb); have n1_ := Aside0.mk (blk_below (g := gb108) (o := .cells #[.int .i64 t106, .int .i64 t107] 31 (0, 0)) (by (with_reducible repeat (first | refine blk_drewN ?_ _ | refine blk_drew ?_ | refine blk_alloc ?_ _)); exact BK108.out) hb); have n2_ := Aside0.mk (below_step (by repeat (first | (with_reducible first | exact HB.out | apply below_alloc | apply pw_below_drewN | apply below_drew1 | refine below_set ?_ GE108.out) | exact HB.out)) hb); clear HO105; clear BK108; clear HB; have HO105 := n0_; have BK108 := n1_; have HB := n2_; clear n0_ n1_ n2_; (try clear hb); (try clear hb2); (try clear hk); (try clear hi)) | (go_at_call 43; (with_reducible refine (word_Fields.calls a1 t111 _ ?side1 A19.out).mono ?_); (case side1 => exact MaxL.below HGMaxL.out (by repeat (first | (with_reducible first | exact HB.out | apply below_alloc | apply pw_below_drewN | apply below_drew1 | refine below_set ?_ GE108.out) | exact HB.out))); rintro e w25 ⟨v112, rfl, ho0, hb⟩; have n0_ := Aside0.mk (Kd.R_elder' (by (with_reducible repeat (first | apply Kd.R_alloc | apply Kd.R_drewN | apply Kd.R_drew)); exact HO105.out) (Kd.R_base ho0) hb); have n1_ := Aside0.mk (Kd.R_lower (Kd.R_new' ho0 (Kd.R_lt (by (with_reducible repeat (first | apply Kd.R_alloc | apply Kd.R_drewN | apply Kd.R_drew)); exact HO105.out))) (below_size (by repeat (first | (with_reducible first | exact HB.out | apply below_alloc | apply pw_below_drewN | apply below_drew1 | refine below_set ?_ GE108.out) | exact HB.out)))); have n2_ := Aside0.mk (blk_below (g := gb108) (o := .cells #[.int .i64 t106, .int .i64 t107] 31 (0, 0)) (by (with_reducible repeat (first | refine blk_drewN ?_ _ | refine blk_drew ?_ | refine blk_alloc ?_ _)); exact BK108.out) hb); have n3_ := Aside0.mk (below_step (by repeat (first | (with_reducible first | exact HB.out | apply below_alloc | apply pw_below_drewN | apply below_drew1 | refine below_set ?_ GE108.out) | exact HB.out)) hb); clear HO105; clear BK108; clear HB; have HO105 := n0_; have HO113 := n1_; have BK108 := n2_; have HB := n3_; clear n0_ n1_ n2_ n3_; (try clear hb); (try clear hb2); (try clear hk); (try clear hi); (try clear ho0); obtain ⟨Ao26, co26, eo26⟩ := Kd.R_slice HO113.out; subst eo26) | (go_at_call 45; (with_reducible refine (word_Line.calls _ _ t111 t114 _ ?side1 ?side2 A20.out).mono ?_); (case side1 => repeat (first | exact (Kd.R_reads' HO113.out).2.2 | (with_reducible refine Kd.C_alloc ?_ _) | (with_reducible refine Kd.C_drewN ?_ _) | (with_reducible refine Kd.C_drew ?_))); (case side2 => exact (Kd.R_reads' HO113.out).2.1); rintro e w27 ⟨rfl, hb⟩; have n0_ := Aside0.mk (Kd.R_below (by (with_reducible repeat (first | apply Kd.R_alloc | apply Kd.R_drewN | apply Kd.R_drew)); exact HO105.out) hb); have n1_ := Aside0.mk (Kd.R_below (by (with_reducible repeat (first | apply Kd.R_alloc | apply Kd.R_drewN | apply Kd.R_drew)); exact HO113.out) hb); have n2_ := Aside0.mk (blk_below (g := gb108) (o := .cells #[.int .i64 t106, .int .i64 t107] 31 (0, 0)) (by (with_reducible repeat (first | refine blk_drewN ?_ _ | refine blk_drew ?_ | refine blk_alloc ?_ _)); exact BK108.out) hb); have n3_ := Aside0.mk (below_step (by repeat (first | (with_reducible first | exact HB.out | apply below_alloc | apply pw_below_drewN | apply below_drew1 | refine below_set ?_ GE108.out) | exact HB.out)) hb); clear HO105; clear HO113; clear BK108; clear HB; have HO105 := n0_; have HO113 := n1_; have BK108 := n2_; have HB := n3_; clear n0_ n1_ n2_ n3_; (try clear hb); (try clear hb2); (try clear hk); (try clear hi)))
                go_meet
                case rel => exact ⟨_, ((t114.toList != a1.toList)), (by first | rfl | (simp; done) | (simp [*]; done)), H', ⟨by have := HJ2.out; first | omega | exact Nat.le_refl _⟩, ⟨by (with_reducible repeat (first | refine blk_drewN ?_ _ | refine blk_drew ?_ | refine blk_alloc ?_ _)); exact BK108.out⟩, ⟨by repeat (first | (with_reducible first | exact HB.out | apply below_alloc | apply pw_below_drewN | apply below_drew1 | refine below_set ?_ GE108.out) | exact HB.out)⟩⟩
              · rw [if_neg c18] at H
                have c18b0 : (t110.toList == a1.toList) = false := beq_eq_false_iff_ne.mpr c18
                have c18b1 : (t110.toList != a1.toList) = true := bne_iff_ne.mpr c18
                have H' := Aside0.mk H
                clear H
                go_wp2_with (first | ((with_reducible refine gate_callee (f := 39) rfl ?_); refine goesL_ (some 28) rfl rfl Tryd.func39 (by kernel_rfl) rfl #[] rfl (by (try simp only [List.map_toArray, List.map_cons, List.map_nil]); first | done | rfl | (simp only [List.length_drop, List.length_take]; rfl)) ?_; (with_reducible refine (secateurlaw04_live.calls  true _ ?side1 A14.out).mono ?_); (case side1 => exact MaxL.below HGMaxL.out (by repeat (first | (with_reducible first | exact HB.out | apply below_alloc | apply pw_below_drewN | apply below_drew1 | refine below_set ?_ GE108.out) | exact HB.out))); rintro e w28 ⟨rfl, hb⟩; refine ⟨_, rfl, ?_⟩; have n0_ := Aside0.mk (Kd.R_below (by (with_reducible repeat (first | apply Kd.R_alloc | apply Kd.R_drewN | apply Kd.R_drew)); exact (Kd.R_mono (Kd.R_far (p := ⟨gb108, 1, none⟩) (Kd.R_far (p := ⟨gb108, 0, none⟩) (Kd.R_types HO105.out BK108.out (by decide)) (fun _ hk => hk.2) (.int .i64 t106)) (fun _ hk => hk.2) (.int .i64 t107)) (fun _ h_ => h_.1))) hb); have n1_ := Aside0.mk (blk_below (g := gb108) (o := .cells #[.int .i64 t106, .int .i64 t107] 31 (0, 0)) (by (with_reducible repeat (first | refine blk_drewN ?_ _ | refine blk_drew ?_ | refine blk_alloc ?_ _)); refine blk_put (cs := #[.int .i64 t106, .int .i64 0]) ?_ 1 _ rfl; (with_reducible repeat (first | refine blk_drewN ?_ _ | refine blk_drew ?_ | refine blk_alloc ?_ _)); refine blk_put (cs := #[.int .i64 0, .int .i64 0]) ?_ 0 _ rfl; (with_reducible repeat (first | refine blk_drewN ?_ _ | refine blk_drew ?_ | refine blk_alloc ?_ _)); exact BK108.out) hb); have n2_ := Aside0.mk (below_step (by repeat (first | (with_reducible first | exact HB.out | apply below_alloc | apply pw_below_drewN | apply below_drew1 | refine below_set ?_ GE108.out) | exact HB.out)) hb); clear HO105; clear BK108; clear HB; have HO105 := n0_; have BK108 := n1_; have HB := n2_; clear n0_ n1_ n2_; (try clear hb); (try clear hb2); (try clear hk); (try clear hi); have hcz29_0 : w28.cell? ⟨gb108, 0, none⟩ = some (.int .i64 t106) := (blk_cell BK108.out 0).trans rfl; have hcz29_1 : w28.cell? ⟨gb108, 1, none⟩ = some (.int .i64 t107) := (blk_cell BK108.out 1).trans rfl; have hfz29_0 := blk_frozen BK108.out 0; have hfz29_1 := blk_frozen BK108.out 1; obtain ⟨Ao30, co30, eo30⟩ := Kd.R_slice HO105.out; subst eo30) | (go_at_call 37; (with_reducible refine (word_Text.calls _ _ t103 t110 _ ?side1 ?side2 A17.out).mono ?_); (case side1 => repeat (first | exact (Kd.R_reads' HO105.out).2.2 | (with_reducible refine Kd.C_alloc ?_ _) | (with_reducible refine Kd.C_drewN ?_ _) | (with_reducible refine Kd.C_drew ?_))); (case side2 => exact (Kd.R_reads' HO105.out).2.1); rintro e w31 ⟨rfl, hb⟩; have n0_ := Aside0.mk (Kd.R_below (by (with_reducible repeat (first | apply Kd.R_alloc | apply Kd.R_drewN | apply Kd.R_drew)); exact HO105.out) hb); have n1_ := Aside0.mk (blk_below (g := gb108) (o := .cells #[.int .i64 t106, .int .i64 t107] 31 (0, 0)) (by (with_reducible repeat (first | refine blk_drewN ?_ _ | refine blk_drew ?_ | refine blk_alloc ?_ _)); exact BK108.out) hb); have n2_ := Aside0.mk (below_step (by repeat (first | (with_reducible first | exact HB.out | apply below_alloc | apply pw_below_drewN | apply below_drew1 | refine below_set ?_ GE108.out) | exact HB.out)) hb); clear HO105; clear BK108; clear HB; have HO105 := n0_; have BK108 := n1_; have HB := n2_; clear n0_ n1_ n2_; (try clear hb); (try clear hb2); (try clear hk); (try clear hi)))
                go_meet
                case rel => exact ⟨_, (true), (by first | rfl | (simp; done) | (simp [*]; done)), H', ⟨by have := HJ2.out; first | omega | exact Nat.le_refl _⟩, ⟨by (with_reducible repeat (first | refine blk_drewN ?_ _ | refine blk_drew ?_ | refine blk_alloc ?_ _)); exact BK108.out⟩, ⟨by repeat (first | (with_reducible first | exact HB.out | apply below_alloc | apply pw_below_drewN | apply below_drew1 | refine below_set ?_ GE108.out) | exact HB.out)⟩⟩
            · rw [if_neg c16] at H
              have c16b0 : (t106 == 0) = false := beq_eq_false_iff_ne.mpr c16
              have c16b1 : (t106 != 0) = true := bne_iff_ne.mpr c16
              (first | rw [c16b0] | rw [c16b1] | (simp only [i64_w, i32_w]; rw [c16b0]) | skip)
              replace H := Option.bind_eq_some_iff.mp H
              obtain ⟨t115, A320, H⟩ := H
              replace H : ((word_Line.f t115).bind fun t118 => (secateurlaw04_WordBack.j1 kj2 l0 (t118.toList != a1.toList))) = some r := H
              have A32 := Aside0.mk A320
              clear A320
              replace H := Option.bind_eq_some_iff.mp H
              obtain ⟨t118, A330, H⟩ := H
              replace H : (secateurlaw04_WordBack.j1 kj2 l0 (t118.toList != a1.toList)) = some r := H
              have A33 := Aside0.mk A330
              clear A330
              have H' := Aside0.mk H
              clear H
              go_wp2_with (first | ((with_reducible refine gate_callee (f := 39) rfl ?_); refine goesL_ (some 28) rfl rfl Tryd.func39 (by kernel_rfl) rfl #[] rfl (by (try simp only [List.map_toArray, List.map_cons, List.map_nil]); first | done | rfl | (simp only [List.length_drop, List.length_take]; rfl)) ?_; (with_reducible refine (secateurlaw04_live.calls  true _ ?side1 A14.out).mono ?_); (case side1 => exact MaxL.below HGMaxL.out (by repeat (first | (with_reducible first | exact HB.out | apply below_alloc | apply pw_below_drewN | apply below_drew1 | refine below_set ?_ GE108.out) | exact HB.out))); rintro e w34 ⟨rfl, hb⟩; refine ⟨_, rfl, ?_⟩; have n0_ := Aside0.mk (Kd.R_below (by (with_reducible repeat (first | apply Kd.R_alloc | apply Kd.R_drewN | apply Kd.R_drew)); exact (Kd.R_mono (Kd.R_far (p := ⟨gb108, 1, none⟩) (Kd.R_far (p := ⟨gb108, 0, none⟩) (Kd.R_types HO105.out BK108.out (by decide)) (fun _ hk => hk.2) (.int .i64 t106)) (fun _ hk => hk.2) (.int .i64 t107)) (fun _ h_ => h_.1))) hb); have n1_ := Aside0.mk (blk_below (g := gb108) (o := .cells #[.int .i64 t106, .int .i64 t107] 31 (0, 0)) (by (with_reducible repeat (first | refine blk_drewN ?_ _ | refine blk_drew ?_ | refine blk_alloc ?_ _)); refine blk_put (cs := #[.int .i64 t106, .int .i64 0]) ?_ 1 _ rfl; (with_reducible repeat (first | refine blk_drewN ?_ _ | refine blk_drew ?_ | refine blk_alloc ?_ _)); refine blk_put (cs := #[.int .i64 0, .int .i64 0]) ?_ 0 _ rfl; (with_reducible repeat (first | refine blk_drewN ?_ _ | refine blk_drew ?_ | refine blk_alloc ?_ _)); exact BK108.out) hb); have n2_ := Aside0.mk (below_step (by repeat (first | (with_reducible first | exact HB.out | apply below_alloc | apply pw_below_drewN | apply below_drew1 | refine below_set ?_ GE108.out) | exact HB.out)) hb); clear HO105; clear BK108; clear HB; have HO105 := n0_; have BK108 := n1_; have HB := n2_; clear n0_ n1_ n2_; (try clear hb); (try clear hb2); (try clear hk); (try clear hi); have hcz35_0 : w34.cell? ⟨gb108, 0, none⟩ = some (.int .i64 t106) := (blk_cell BK108.out 0).trans rfl; have hcz35_1 : w34.cell? ⟨gb108, 1, none⟩ = some (.int .i64 t107) := (blk_cell BK108.out 1).trans rfl; have hfz35_0 := blk_frozen BK108.out 0; have hfz35_1 := blk_frozen BK108.out 1) | (go_at_call 43; (with_reducible refine (word_Fields.calls a1 t115 _ ?side1 A32.out).mono ?_); (case side1 => exact MaxL.below HGMaxL.out (by repeat (first | (with_reducible first | exact HB.out | apply below_alloc | apply pw_below_drewN | apply below_drew1 | refine below_set ?_ GE108.out) | exact HB.out))); rintro e w36 ⟨v116, rfl, ho0, hb⟩; have n0_ := Aside0.mk (Kd.R_elder' (by (with_reducible repeat (first | apply Kd.R_alloc | apply Kd.R_drewN | apply Kd.R_drew)); exact HO105.out) (Kd.R_base ho0) hb); have n1_ := Aside0.mk (Kd.R_lower (Kd.R_new' ho0 (Kd.R_lt (by (with_reducible repeat (first | apply Kd.R_alloc | apply Kd.R_drewN | apply Kd.R_drew)); exact HO105.out))) (below_size (by repeat (first | (with_reducible first | exact HB.out | apply below_alloc | apply pw_below_drewN | apply below_drew1 | refine below_set ?_ GE108.out) | exact HB.out)))); have n2_ := Aside0.mk (blk_below (g := gb108) (o := .cells #[.int .i64 t106, .int .i64 t107] 31 (0, 0)) (by (with_reducible repeat (first | refine blk_drewN ?_ _ | refine blk_drew ?_ | refine blk_alloc ?_ _)); exact BK108.out) hb); have n3_ := Aside0.mk (below_step (by repeat (first | (with_reducible first | exact HB.out | apply below_alloc | apply pw_below_drewN | apply below_drew1 | refine below_set ?_ GE108.out) | exact HB.out)) hb); clear HO105; clear BK108; clear HB; have HO105 := n0_; have HO117 := n1_; have BK108 := n2_; have HB := n3_; clear n0_ n1_ n2_ n3_; (try clear hb); (try clear hb2); (try clear hk); (try clear hi); (try clear ho0); obtain ⟨Ao37, co37, eo37⟩ := Kd.R_slice HO117.out; subst eo37) | (go_at_call 45; (with_reducible refine (word_Line.calls _ _ t115 t118 _ ?side1 ?side2 A33.out).mono ?_); (case side1 => repeat (first | exact (Kd.R_reads' HO117.out).2.2 | (with_reducible refine Kd.C_alloc ?_ _) | (with_reducible refine Kd.C_drewN ?_ _) | (with_reducible refine Kd.C_drew ?_))); (case side2 => exact (Kd.R_reads' HO117.out).2.1); rintro e w38 ⟨rfl, hb⟩; have n0_ := Aside0.mk (Kd.R_below (by (with_reducible repeat (first | apply Kd.R_alloc | apply Kd.R_drewN | apply Kd.R_drew)); exact HO105.out) hb); have n1_ := Aside0.mk (Kd.R_below (by (with_reducible repeat (first | apply Kd.R_alloc | apply Kd.R_drewN | apply Kd.R_drew)); exact HO117.out) hb); have n2_ := Aside0.mk (blk_below (g := gb108) (o := .cells #[.int .i64 t106, .int .i64 t107] 31 (0, 0)) (by (with_reducible repeat (first | refine blk_drewN ?_ _ | refine blk_drew ?_ | refine blk_alloc ?_ _)); exact BK108.out) hb); have n3_ := Aside0.mk (below_step (by repeat (first | (with_reducible first | exact HB.out | apply below_alloc | apply pw_below_drewN | apply below_drew1 | refine below_set ?_ GE108.out) | exact HB.out)) hb); clear HO105; clear HO117; clear BK108; clear HB; have HO105 := n0_; have HO117 := n1_; have BK108 := n2_; have HB := n3_; clear n0_ n1_ n2_ n3_; (try clear hb); (try clear hb2); (try clear hk); (try clear hi)))
              go_meet
              case rel => exact ⟨_, ((t118.toList != a1.toList)), (by first | rfl | (simp; done) | (simp [*]; done)), H', ⟨by have := HJ2.out; first | omega | exact Nat.le_refl _⟩, ⟨by (with_reducible repeat (first | refine blk_drewN ?_ _ | refine blk_drew ?_ | refine blk_alloc ?_ _)); exact BK108.out⟩, ⟨by repeat (first | (with_reducible first | exact HB.out | apply below_alloc | apply pw_below_drewN | apply below_drew1 | refine below_set ?_ GE108.out) | exact HB.out)⟩⟩
          · replace c15 := Bool.eq_false_iff.mpr c15
            subst c15
            have H1 : (secateurlaw04_WordBack.j1 kj2 l0 true) = some r := by rw [if_neg (show ¬ (false = true) by decide)] at H; exact H
            clear H
            have H := H1
            clear H1
            have H' := Aside0.mk H
            clear H
            go_wp2_with (first | ((with_reducible refine gate_callee (f := 39) rfl ?_); refine goesL_ (some 28) rfl rfl Tryd.func39 (by kernel_rfl) rfl #[] rfl (by (try simp only [List.map_toArray, List.map_cons, List.map_nil]); first | done | rfl | (simp only [List.length_drop, List.length_take]; rfl)) ?_; (with_reducible refine (secateurlaw04_live.calls  false _ ?side1 A14.out).mono ?_); (case side1 => exact MaxL.below HGMaxL.out (by repeat (first | (with_reducible first | exact HB.out | apply below_alloc | apply pw_below_drewN | apply below_drew1 | refine below_set ?_ GE108.out) | exact HB.out))); rintro e w39 ⟨rfl, hb⟩; refine ⟨_, rfl, ?_⟩; have n0_ := Aside0.mk (Kd.R_below (by (with_reducible repeat (first | apply Kd.R_alloc | apply Kd.R_drewN | apply Kd.R_drew)); exact (Kd.R_mono (Kd.R_far (p := ⟨gb108, 1, none⟩) (Kd.R_far (p := ⟨gb108, 0, none⟩) (Kd.R_types HO105.out BK108.out (by decide)) (fun _ hk => hk.2) (.int .i64 t106)) (fun _ hk => hk.2) (.int .i64 t107)) (fun _ h_ => h_.1))) hb); have n1_ := Aside0.mk (blk_below (g := gb108) (o := .cells #[.int .i64 t106, .int .i64 t107] 31 (0, 0)) (by (with_reducible repeat (first | refine blk_drewN ?_ _ | refine blk_drew ?_ | refine blk_alloc ?_ _)); refine blk_put (cs := #[.int .i64 t106, .int .i64 0]) ?_ 1 _ rfl; (with_reducible repeat (first | refine blk_drewN ?_ _ | refine blk_drew ?_ | refine blk_alloc ?_ _)); refine blk_put (cs := #[.int .i64 0, .int .i64 0]) ?_ 0 _ rfl; (with_reducible repeat (first | refine blk_drewN ?_ _ | refine blk_drew ?_ | refine blk_alloc ?_ _)); exact BK108.out) hb); have n2_ := Aside0.mk (below_step (by repeat (first | (with_reducible first | exact HB.out | apply below_alloc | apply pw_below_drewN | apply below_drew1 | refine below_set ?_ GE108.out) | exact HB.out)) hb); clear HO105; clear BK108; clear HB; have HO105 := n0_; have BK108 := n1_; have HB := n2_; clear n0_ n1_ n2_; (try clear hb); (try clear hb2); (try clear hk); (try clear hi)))
            go_meet
            case rel => exact ⟨_, (true), (by first | rfl | (simp; done) | (simp [*]; done)), H', ⟨by have := HJ2.out; first | omega | exact Nat.le_refl _⟩, ⟨by (with_reducible repeat (first | refine blk_drewN ?_ _ | refine blk_drew ?_ | refine blk_alloc ?_ _)); exact BK108.out⟩, ⟨by repeat (first | (with_reducible first | exact HB.out | apply below_alloc | apply pw_below_drewN | apply below_drew1 | refine below_set ?_ GE108.out) | exact HB.out)⟩⟩
        case rest =>
          clear HC10
          try clear c1
          try clear p2
          try clear c3
          try clear c4
          try clear c5
          try clear c6
          try clear c10
          try clear c15
          try clear c16
          try clear c16b0
          try clear c16b1
          try clear c18
          try clear c18b0
          try clear c18b1
          try clear c38
          try clear c39
          try clear hcz13_0
          try clear hcz13_1
          try clear hcz22_0
          try clear hcz22_1
          try clear hcz29_0
          try clear hcz29_1
          try clear hcz35_0
          try clear hcz35_1
          try clear hfz13_0
          try clear hfz13_1
          try clear hfz22_0
          try clear hfz22_1
          try clear hfz29_0
          try clear hfz29_1
          try clear hfz35_0
          try clear hfz35_1
          try clear p2
          obtain ⟨kq, x47_9, rfl, HA, HJ9, BK108, HB⟩ := hcut
          cases kq with
          | zero => exact absurd HA.out (by simp [secateurlaw04_WordBack.j1])
          | succ kj9 =>
            have H := HA.out
            clear HA
            simp only [secateurlaw04_WordBack.j1] at H
            by_cases c40 : x47_9 = true
            · subst c40
              have H1 : (some false) = some r := by rw [if_pos rfl] at H; exact H
              clear H
              have H := H1
              clear H1
              obtain rfl := Option.some.inj H
              go_wp2
              go_ret
              exact ⟨by first | rfl | (simp [errW_none, errW_some] <;> rfl) | (simp [*, errW_none, errW_some] <;> rfl), by repeat (first | (with_reducible first | exact HB.out | apply below_alloc | apply pw_below_drewN | apply below_drew1 | refine below_set ?_ GE108.out) | exact HB.out)⟩
            · replace c40 := Bool.eq_false_iff.mpr c40
              subst c40
              have H1 : (secateurlaw04_WordBack.l0 kj9 l0 true false 0 0) = some r := by rw [if_neg (show ¬ (false = true) by decide)] at H; exact H
              clear H
              have H := H1
              clear H1
              have H' := Aside0.mk H
              clear H
              go_wp2
              go_loopg [7, 8, 9, 10] kj9 (fun kq v7 v8 v9 v10 w' => ∃ (x7_3 : Bool) (x8_3 : Bool) (x9_3 : Int) (x10_3 : Int), v7 = .bool x7_3 ∧ v8 = .bool x8_3 ∧ v9 = .int .i64 x9_3 ∧ v10 = .int .i64 x10_3 ∧ Aside0 (secateurlaw04_WordBack.l0 kq l0 x7_3 x8_3 x9_3 x10_3 = some r) ∧ Aside0 (kq ≤ kj9) ∧ Aside0 (w'.heap[gb108]? = some (.cells #[.int .i64 t106, .int .i64 t107] 31 (0, 0))) ∧ Aside0 (Below w.heap.size w w'))
              case atStart => exact ⟨(true), (false), (0), (0), (by first | rfl | (simp; done) | (simp [*]; done)), (by first | rfl | (simp; done) | (simp [*]; done)), (by first | rfl | (simp; done) | (simp [*]; done)), (by first | rfl | (simp; done) | (simp [*]; done)), H', ⟨Nat.le_refl _⟩, ⟨by (with_reducible repeat (first | refine blk_drewN ?_ _ | refine blk_drew ?_ | refine blk_alloc ?_ _)); exact BK108.out⟩, ⟨by repeat (first | (with_reducible first | exact HB.out | apply below_alloc | apply pw_below_drewN | apply below_drew1 | refine below_set ?_ GE108.out) | exact HB.out)⟩⟩
              case round =>
                clear H'
                try clear c1
                try clear p2
                try clear c3
                try clear c4
                try clear c5
                try clear c6
                try clear c10
                try clear c15
                try clear c16
                try clear c16b0
                try clear c16b1
                try clear c18
                try clear c18b0
                try clear c18b1
                try clear c38
                try clear c39
                try clear c40
                try clear hcz13_0
                try clear hcz13_1
                try clear hcz22_0
                try clear hcz22_1
                try clear hcz29_0
                try clear hcz29_1
                try clear hcz35_0
                try clear hcz35_1
                try clear hfz13_0
                try clear hfz13_1
                try clear hfz22_0
                try clear hfz22_1
                try clear hfz29_0
                try clear hfz29_1
                try clear hfz35_0
                try clear hfz35_1
                try clear p2
                obtain ⟨x7_3, x8_3, x9_3, x10_3, rfl, rfl, rfl, rfl, HA, HK3, BK108, HB⟩ := hrel
                cases gk with
                | zero => exact absurd HA.out (by simp [secateurlaw04_WordBack.l0])
                | succ k3 =>
                  have H := HA.out
                  clear HA
                  simp only [secateurlaw04_WordBack.l0] at H
                  by_cases c41 : x10_3 < (l0.length : Int)
                  · rw [if_pos c41] at H
                    have c41b0 : decide (x10_3 < (l0.length : Int)) = true := decide_eq_true c41
                    clear c41
                    by_cases c42 : 0 ≤ x10_3
                    · rw [if_pos c42] at H
                      have c42b0 : decide (0 ≤ x10_3) = true := decide_eq_true c42
                      clear c42
                      have HC43 := Aside0.mk H
                      clear H
                      have p119 : 0 ≤ (x10_3 : Int) := of_decide_eq_true (by first | (with_reducible assumption) | assumption)
                      have q119 : x10_3 < (l0.length : Int) := of_decide_eq_true (by first | (with_reducible assumption) | assumption)
                      obtain ⟨ad119, e119, hx119_0⟩ := Kd.at_string HR0.out x10_3 p119 q119
                      cases e119
                      replace hx119_0 := (HB.out.cell (World.block_lt_of_cell? w _ hx119_0)).trans hx119_0
                      replace p119 := eq_true p119
                      replace q119 := eq_true q119
                      go_upto_region 11 with (fail)
                      go_cut [70] (fun v70 wc => ∃ (kq : Nat) (x70_42 : Bool), v70 = .bool x70_42 ∧ Aside0 (secateurlaw04_WordBack.j3 kq l0 x7_3 x8_3 (wrap64 (x9_3 + ((rdOf ByteArray.empty l0 x10_3).size : Int))) x10_3 x70_42 = some r) ∧ Aside0 (kq ≤ k3) ∧ Aside0 (wc.heap[gb108]? = some (.cells #[.int .i64 t106, .int .i64 t107] 31 (0, 0))) ∧ Aside0 (Below w.heap.size w wc))
                      case first =>
                        have H := HC43.out
                        clear HC43
                        by_cases c44 : ((rdOf ByteArray.empty l0 x10_3).size : Int) > 1000
                        · rw [if_pos c44] at H
                          have c44b0 : decide (1000 < ((rdOf ByteArray.empty l0 x10_3).size : Int)) = true := decide_eq_true c44
                          have c44b1 : decide (1000 < (rdOf ByteArray.empty l0 x10_3).size) = true := decide_eq_true (by omega)
                          clear c44
                          (first | rw [c44b0] | rw [c44b1] | (simp only [i64_w, i32_w]; rw [c44b0]) | skip)
                          have H' := Aside0.mk H
                          clear H
                          have p120 : 0 ≤ (x10_3 : Int) := of_decide_eq_true (by first | (with_reducible assumption) | assumption)
                          have q120 : x10_3 < (l0.length : Int) := of_decide_eq_true (by first | (with_reducible assumption) | assumption)
                          obtain ⟨ad120, e120, hx120_0⟩ := Kd.at_string HR0.out x10_3 p120 q120
                          obtain rfl : ad119 = ad120 := (by injection e120)
                          replace hx120_0 := (HB.out.cell (World.block_lt_of_cell? w _ hx120_0)).trans hx120_0
                          replace p120 := eq_true p120
                          replace q120 := eq_true q120
                          go_wp2
                          go_meet
                          case rel => exact ⟨_, (true), (by first | rfl | (simp; done) | (simp [*]; done)), H', ⟨by have := HJ2.out; have := HJ9.out; have := HK3.out; first | omega | exact Nat.le_refl _⟩, ⟨by (with_reducible repeat (first | refine blk_drewN ?_ _ | refine blk_drew ?_ | refine blk_alloc ?_ _)); exact BK108.out⟩, ⟨by repeat (first | (with_reducible first | exact HB.out | apply below_alloc | apply pw_below_drewN | apply below_drew1 | refine below_set ?_ GE108.out) | exact HB.out)⟩⟩
                        · rw [if_neg c44] at H
                          have c44b0 : decide (1000 < ((rdOf ByteArray.empty l0 x10_3).size : Int)) = false := decide_eq_false c44
                          have c44b1 : decide (1000 < (rdOf ByteArray.empty l0 x10_3).size) = false := decide_eq_false (by omega)
                          clear c44
                          (first | rw [c44b0] | rw [c44b1] | (simp only [i64_w, i32_w]; rw [c44b0]) | skip)
                          have H' := Aside0.mk H
                          clear H
                          have p120 : 0 ≤ (x10_3 : Int) := of_decide_eq_true (by first | (with_reducible assumption) | assumption)
                          have q120 : x10_3 < (l0.length : Int) := of_decide_eq_true (by first | (with_reducible assumption) | assumption)
                          obtain ⟨ad120, e120, hx120_0⟩ := Kd.at_string HR0.out x10_3 p120 q120
                          obtain rfl : ad119 = ad120 := (by injection e120)
                          replace hx120_0 := (HB.out.cell (World.block_lt_of_cell? w _ hx120_0)).trans hx120_0
                          replace p120 := eq_true p120
                          replace q120 := eq_true q120
                          go_wp2
                          go_meet
                          case rel => exact ⟨_, (decide ((wrap64 (x9_3 + ((rdOf ByteArray.empty l0 x10_3).size : Int))) > 20000)), (by first | rfl | (simp; done) | (simp [*]; done)), H', ⟨by have := HJ2.out; have := HJ9.out; have := HK3.out; first | omega | exact Nat.le_refl _⟩, ⟨by (with_reducible repeat (first | refine blk_drewN ?_ _ | refine blk_drew ?_ | refine blk_alloc ?_ _)); exact BK108.out⟩, ⟨by repeat (first | (with_reducible first | exact HB.out | apply below_alloc | apply pw_below_drewN | apply below_drew1 | refine below_set ?_ GE108.out) | exact HB.out)⟩⟩
                      case rest =>
                        clear HC43
                        try clear c1
                        try clear p1
                        try clear q1
                        try clear hx1
                        try clear p2
                        try clear c3
                        try clear c4
                        try clear c5
                        try clear c6
                        try clear p6
                        try clear c10
                        try clear p11
                        try clear q11
                        try clear hx11
                        try clear p12
                        try clear q12
                        try clear hx12
                        try clear c15
                        try clear c16
                        try clear c16b0
                        try clear c16b1
                        try clear c18
                        try clear c18b0
                        try clear c18b1
                        try clear c38
                        try clear c39
                        try clear c40
                        try clear c41
                        try clear c41b0
                        try clear c42
                        try clear c42b0
                        try clear c44
                        try clear c44b0
                        try clear c44b1
                        try clear hcz13_0
                        try clear hcz13_1
                        try clear hcz22_0
                        try clear hcz22_1
                        try clear hcz29_0
                        try clear hcz29_1
                        try clear hcz35_0
                        try clear hcz35_1
                        try clear hfz13_0
                        try clear hfz13_1
                        try clear hfz22_0
                        try clear hfz22_1
                        try clear hfz29_0
                        try clear hfz29_1
                        try clear hfz35_0
                        try clear hfz35_1
                        try clear hx119_0
                        try clear hx120_0
                        try clear p119
                        try clear p120
                        try clear p2
                        try clear q119
                        try clear q120
                        obtain ⟨kq, x70_42, rfl, HA, HJ42, BK108, HB⟩ := hcut
                        cases kq with
                        | zero => exact absurd HA.out (by simp [secateurlaw04_WordBack.j3])
                        | succ kj42 =>
                          have H := HA.out
                          clear HA
                          simp only [secateurlaw04_WordBack.j3] at H
                          by_cases c45 : x70_42 = true
                          · subst c45
                            have H1 : (some true) = some r := by rw [if_pos rfl] at H; exact H
                            clear H
                            have H := H1
                            clear H1
                            obtain rfl := Option.some.inj H
                            go_wp2
                            go_ret
                            exact ⟨by first | rfl | (simp [errW_none, errW_some] <;> rfl) | (simp [*, errW_none, errW_some] <;> rfl), by repeat (first | (with_reducible first | exact HB.out | apply below_alloc | apply pw_below_drewN | apply below_drew1 | refine below_set ?_ GE108.out) | exact HB.out)⟩
                          · replace c45 := Bool.eq_false_iff.mpr c45
                            subst c45
                            have H1 : (secateurlaw04_WordBack.l1 kj42 l0 x7_3 x8_3 (wrap64 (x9_3 + ((rdOf ByteArray.empty l0 x10_3).size : Int))) x10_3 0) = some r := by rw [if_neg (show ¬ (false = true) by decide)] at H; exact H
                            clear H
                            have H := H1
                            clear H1
                            have H' := Aside0.mk H
                            clear H
                            go_wp2
                            go_loopg [7, 8, 11] kj42 (fun kq v7 v8 v11 w' => ∃ (x7_5 : Bool) (x8_5 : Bool) (x11_5 : Int), v7 = .bool x7_5 ∧ v8 = .bool x8_5 ∧ v11 = .int .i64 x11_5 ∧ Aside0 (secateurlaw04_WordBack.l1 kq l0 x7_5 x8_5 (wrap64 (x9_3 + ((rdOf ByteArray.empty l0 x10_3).size : Int))) x10_3 x11_5 = some r) ∧ Aside0 (kq ≤ kj42) ∧ Aside0 (w'.heap[gb108]? = some (.cells #[.int .i64 t106, .int .i64 t107] 31 (0, 0))) ∧ Aside0 (Below w.heap.size w w'))
                            case atStart => exact ⟨(x7_3), (x8_3), (0), (by first | rfl | (simp; done) | (simp [*]; done)), (by first | rfl | (simp; done) | (simp [*]; done)), (by first | rfl | (simp; done) | (simp [*]; done)), H', ⟨Nat.le_refl _⟩, ⟨by (with_reducible repeat (first | refine blk_drewN ?_ _ | refine blk_drew ?_ | refine blk_alloc ?_ _)); exact BK108.out⟩, ⟨by repeat (first | (with_reducible first | exact HB.out | apply below_alloc | apply pw_below_drewN | apply below_drew1 | refine below_set ?_ GE108.out) | exact HB.out)⟩⟩
                            case round =>
                              clear H'
                              try clear c1
                              try clear p1
                              try clear q1
                              try clear hx1
                              try clear p2
                              try clear c3
                              try clear c4
                              try clear c5
                              try clear c6
                              try clear p6
                              try clear c10
                              try clear p11
                              try clear q11
                              try clear hx11
                              try clear p12
                              try clear q12
                              try clear hx12
                              try clear c15
                              try clear c16
                              try clear c16b0
                              try clear c16b1
                              try clear c18
                              try clear c18b0
                              try clear c18b1
                              try clear c38
                              try clear c39
                              try clear c40
                              try clear c41
                              try clear c41b0
                              try clear c42
                              try clear c42b0
                              try clear c44
                              try clear c44b0
                              try clear c44b1
                              try clear c45
                              try clear hcz13_0
                              try clear hcz13_1
                              try clear hcz22_0
                              try clear hcz22_1
                              try clear hcz29_0
                              try clear hcz29_1
                              try clear hcz35_0
                              try clear hcz35_1
                              try clear hfz13_0
                              try clear hfz13_1
                              try clear hfz22_0
                              try clear hfz22_1
                              try clear hfz29_0
                              try clear hfz29_1
                              try clear hfz35_0
                              try clear hfz35_1
                              try clear hx119_0
                              try clear hx120_0
                              try clear p1
                              try clear p11
                              try clear p119
                              try clear p12
                              try clear p120
                              try clear p2
                              try clear p6
                              try clear q1
                              try clear q11
                              try clear q119
                              try clear q12
                              try clear q120
                              obtain ⟨x7_5, x8_5, x11_5, rfl, rfl, rfl, HA, HK5, BK108, HB⟩ := hrel
                              cases gk with
                              | zero => exact absurd HA.out (by simp [secateurlaw04_WordBack.l1])
                              | succ k5 =>
                                have H := HA.out
                                clear HA
                                simp only [secateurlaw04_WordBack.l1] at H
                                by_cases c46 : 0 ≤ x10_3
                                · rw [if_pos c46] at H
                                  have c46b0 : decide (0 ≤ x10_3) = true := decide_eq_true c46
                                  clear c46
                                  by_cases c47 : x10_3 < (l0.length : Int)
                                  · rw [if_pos c47] at H
                                    have c47b0 : decide (x10_3 < (l0.length : Int)) = true := decide_eq_true c47
                                    clear c47
                                    by_cases c48 : x11_5 < ((rdOf ByteArray.empty l0 x10_3).size : Int)
                                    · rw [if_pos c48] at H
                                      have c48b0 : decide (x11_5 < ((rdOf ByteArray.empty l0 x10_3).size : Int)) = true := decide_eq_true c48
                                      clear c48
                                      by_cases c49 : x7_5 = true
                                      · subst c49
                                        have H1 : (if 0 ≤ x11_5 then (if (bt (rdOf ByteArray.empty l0 x10_3) x11_5) ≥ 32 then (if x8_5 = true then (secateurlaw04_WordBack.l1 k5 l0 (decide ((bt (rdOf ByteArray.empty l0 x10_3) x11_5) ≤ 126)) true (wrap64 (x9_3 + ((rdOf ByteArray.empty l0 x10_3).size : Int))) x10_3 (wrap64 (x11_5 + 1))) else (secateurlaw04_WordBack.l1 k5 l0 (decide ((bt (rdOf ByteArray.empty l0 x10_3) x11_5) ≤ 126)) ((bt (rdOf ByteArray.empty l0 x10_3) x11_5) == 32) (wrap64 (x9_3 + ((rdOf ByteArray.empty l0 x10_3).size : Int))) x10_3 (wrap64 (x11_5 + 1)))) else (if x8_5 = true then (secateurlaw04_WordBack.l1 k5 l0 false true (wrap64 (x9_3 + ((rdOf ByteArray.empty l0 x10_3).size : Int))) x10_3 (wrap64 (x11_5 + 1))) else (secateurlaw04_WordBack.l1 k5 l0 false ((bt (rdOf ByteArray.empty l0 x10_3) x11_5) == 32) (wrap64 (x9_3 + ((rdOf ByteArray.empty l0 x10_3).size : Int))) x10_3 (wrap64 (x11_5 + 1))))) else (none)) = some r := by rw [if_pos rfl] at H; exact H
                                        clear H
                                        have H := H1
                                        clear H1
                                        by_cases c50 : 0 ≤ x11_5
                                        · rw [if_pos c50] at H
                                          have c50b0 : decide (0 ≤ x11_5) = true := decide_eq_true c50
                                          clear c50
                                          by_cases c52 : (bt (rdOf ByteArray.empty l0 x10_3) x11_5) ≥ 32
                                          · rw [if_pos c52] at H
                                            have c52b0 : decide (32 ≤ (bt (rdOf ByteArray.empty l0 x10_3) x11_5)) = true := decide_eq_true c52
                                            clear c52
                                            by_cases c54 : x8_5 = true
                                            · subst c54
                                              have H1 : (secateurlaw04_WordBack.l1 k5 l0 (decide ((bt (rdOf ByteArray.empty l0 x10_3) x11_5) ≤ 126)) true (wrap64 (x9_3 + ((rdOf ByteArray.empty l0 x10_3).size : Int))) x10_3 (wrap64 (x11_5 + 1))) = some r := by rw [if_pos rfl] at H; exact H
                                              clear H
                                              have H := H1
                                              clear H1
                                              have H' := Aside0.mk H
                                              clear H
                                              have p121 : 0 ≤ (x10_3 : Int) := of_decide_eq_true (by first | (with_reducible assumption) | assumption)
                                              have q121 : x10_3 < (l0.length : Int) := of_decide_eq_true (by first | (with_reducible assumption) | assumption)
                                              obtain ⟨ad121, e121, hx121_0⟩ := Kd.at_string HR0.out x10_3 p121 q121
                                              obtain rfl : ad119 = ad121 := (by injection e121)
                                              replace hx121_0 := (HB.out.cell (World.block_lt_of_cell? w _ hx121_0)).trans hx121_0
                                              replace p121 := eq_true p121
                                              replace q121 := eq_true q121
                                              have p122 : 0 ≤ (x10_3 : Int) := of_decide_eq_true (by first | (with_reducible assumption) | assumption)
                                              have q122 : x10_3 < (l0.length : Int) := of_decide_eq_true (by first | (with_reducible assumption) | assumption)
                                              obtain ⟨ad122, e122, hx122_0⟩ := Kd.at_string HR0.out x10_3 p122 q122
                                              obtain rfl : ad119 = ad122 := (by injection e122)
                                              replace hx122_0 := (HB.out.cell (World.block_lt_of_cell? w _ hx122_0)).trans hx122_0
                                              replace p122 := eq_true p122
                                              replace q122 := eq_true q122
                                              have p51 : 0 ≤ (x11_5 : Int) := of_decide_eq_true (by first | (with_reducible assumption) | assumption)
                                              have q51 : x11_5 < ((rdOf ByteArray.empty l0 x10_3).size : Int) := of_decide_eq_true (by first | (with_reducible assumption) | assumption)
                                              have hx51 := bt_at (rdOf ByteArray.empty l0 x10_3) x11_5
                                              replace p51 := eq_true p51
                                              replace q51 := eq_true q51
                                              have p123 : 0 ≤ (x10_3 : Int) := of_decide_eq_true (by first | (with_reducible assumption) | assumption)
                                              have q123 : x10_3 < (l0.length : Int) := of_decide_eq_true (by first | (with_reducible assumption) | assumption)
                                              obtain ⟨ad123, e123, hx123_0⟩ := Kd.at_string HR0.out x10_3 p123 q123
                                              obtain rfl : ad119 = ad123 := (by injection e123)
                                              replace hx123_0 := (HB.out.cell (World.block_lt_of_cell? w _ hx123_0)).trans hx123_0
                                              replace p123 := eq_true p123
                                              replace q123 := eq_true q123
                                              have p53 : 0 ≤ (x11_5 : Int) := of_decide_eq_true (by first | (with_reducible assumption) | assumption)
                                              have q53 : x11_5 < ((rdOf ByteArray.empty l0 x10_3).size : Int) := of_decide_eq_true (by first | (with_reducible assumption) | assumption)
                                              have hx53 := bt_at (rdOf ByteArray.empty l0 x10_3) x11_5
                                              replace p53 := eq_true p53
                                              replace q53 := eq_true q53
                                              go_wp2
                                              go_roundg k5
                                              case measure => have := HJ2.out; have := HJ9.out; have := HK3.out; have := HJ42.out; have := HK5.out; omega
                                              case rel => exact ⟨(decide ((bt (rdOf ByteArray.empty l0 x10_3) x11_5) ≤ 126)), (true), (wrap64 (x11_5 + 1)), (by first | rfl | (simp; done) | (simp [*]; done)), (by first | rfl | (simp; done) | (simp [*]; done)), (by first | rfl | (simp; done) | (simp [*]; done)), H', ⟨by have := HJ2.out; have := HJ9.out; have := HK3.out; have := HJ42.out; have := HK5.out; omega⟩, ⟨by (with_reducible repeat (first | refine blk_drewN ?_ _ | refine blk_drew ?_ | refine blk_alloc ?_ _)); exact BK108.out⟩, ⟨by repeat (first | (with_reducible first | exact HB.out | apply below_alloc | apply pw_below_drewN | apply below_drew1 | refine below_set ?_ GE108.out) | exact HB.out)⟩⟩
                                            · replace c54 := Bool.eq_false_iff.mpr c54
                                              subst c54
                                              have H1 : (secateurlaw04_WordBack.l1 k5 l0 (decide ((bt (rdOf ByteArray.empty l0 x10_3) x11_5) ≤ 126)) ((bt (rdOf ByteArray.empty l0 x10_3) x11_5) == 32) (wrap64 (x9_3 + ((rdOf ByteArray.empty l0 x10_3).size : Int))) x10_3 (wrap64 (x11_5 + 1))) = some r := by rw [if_neg (show ¬ (false = true) by decide)] at H; exact H
                                              clear H
                                              have H := H1
                                              clear H1
                                              have H' := Aside0.mk H
                                              clear H
                                              have p121 : 0 ≤ (x10_3 : Int) := of_decide_eq_true (by first | (with_reducible assumption) | assumption)
                                              have q121 : x10_3 < (l0.length : Int) := of_decide_eq_true (by first | (with_reducible assumption) | assumption)
                                              obtain ⟨ad121, e121, hx121_0⟩ := Kd.at_string HR0.out x10_3 p121 q121
                                              obtain rfl : ad119 = ad121 := (by injection e121)
                                              replace hx121_0 := (HB.out.cell (World.block_lt_of_cell? w _ hx121_0)).trans hx121_0
                                              replace p121 := eq_true p121
                                              replace q121 := eq_true q121
                                              have p122 : 0 ≤ (x10_3 : Int) := of_decide_eq_true (by first | (with_reducible assumption) | assumption)
                                              have q122 : x10_3 < (l0.length : Int) := of_decide_eq_true (by first | (with_reducible assumption) | assumption)
                                              obtain ⟨ad122, e122, hx122_0⟩ := Kd.at_string HR0.out x10_3 p122 q122
                                              obtain rfl : ad119 = ad122 := (by injection e122)
                                              replace hx122_0 := (HB.out.cell (World.block_lt_of_cell? w _ hx122_0)).trans hx122_0
                                              replace p122 := eq_true p122
                                              replace q122 := eq_true q122
                                              have p51 : 0 ≤ (x11_5 : Int) := of_decide_eq_true (by first | (with_reducible assumption) | assumption)
                                              have q51 : x11_5 < ((rdOf ByteArray.empty l0 x10_3).size : Int) := of_decide_eq_true (by first | (with_reducible assumption) | assumption)
                                              have hx51 := bt_at (rdOf ByteArray.empty l0 x10_3) x11_5
                                              replace p51 := eq_true p51
                                              replace q51 := eq_true q51
                                              have p123 : 0 ≤ (x10_3 : Int) := of_decide_eq_true (by first | (with_reducible assumption) | assumption)
                                              have q123 : x10_3 < (l0.length : Int) := of_decide_eq_true (by first | (with_reducible assumption) | assumption)
                                              obtain ⟨ad123, e123, hx123_0⟩ := Kd.at_string HR0.out x10_3 p123 q123
                                              obtain rfl : ad119 = ad123 := (by injection e123)
                                              replace hx123_0 := (HB.out.cell (World.block_lt_of_cell? w _ hx123_0)).trans hx123_0
                                              replace p123 := eq_true p123
                                              replace q123 := eq_true q123
                                              have p53 : 0 ≤ (x11_5 : Int) := of_decide_eq_true (by first | (with_reducible assumption) | assumption)
                                              have q53 : x11_5 < ((rdOf ByteArray.empty l0 x10_3).size : Int) := of_decide_eq_true (by first | (with_reducible assumption) | assumption)
                                              have hx53 := bt_at (rdOf ByteArray.empty l0 x10_3) x11_5
                                              replace p53 := eq_true p53
                                              replace q53 := eq_true q53
                                              have p124 : 0 ≤ (x10_3 : Int) := of_decide_eq_true (by first | (with_reducible assumption) | assumption)
                                              have q124 : x10_3 < (l0.length : Int) := of_decide_eq_true (by first | (with_reducible assumption) | assumption)
                                              obtain ⟨ad124, e124, hx124_0⟩ := Kd.at_string HR0.out x10_3 p124 q124
                                              obtain rfl : ad119 = ad124 := (by injection e124)
                                              replace hx124_0 := (HB.out.cell (World.block_lt_of_cell? w _ hx124_0)).trans hx124_0
                                              replace p124 := eq_true p124
                                              replace q124 := eq_true q124
                                              have p55 : 0 ≤ (x11_5 : Int) := of_decide_eq_true (by first | (with_reducible assumption) | assumption)
                                              have q55 : x11_5 < ((rdOf ByteArray.empty l0 x10_3).size : Int) := of_decide_eq_true (by first | (with_reducible assumption) | assumption)
                                              have hx55 := bt_at (rdOf ByteArray.empty l0 x10_3) x11_5
                                              replace p55 := eq_true p55
                                              replace q55 := eq_true q55
                                              go_wp2
                                              go_roundg k5
                                              case measure => have := HJ2.out; have := HJ9.out; have := HK3.out; have := HJ42.out; have := HK5.out; omega
                                              case rel => exact ⟨(decide ((bt (rdOf ByteArray.empty l0 x10_3) x11_5) ≤ 126)), (((bt (rdOf ByteArray.empty l0 x10_3) x11_5) == 32)), (wrap64 (x11_5 + 1)), (by first | rfl | (simp; done) | (simp [*]; done)), (by first | rfl | (simp; done) | (simp [*]; done)), (by first | rfl | (simp; done) | (simp [*]; done)), H', ⟨by have := HJ2.out; have := HJ9.out; have := HK3.out; have := HJ42.out; have := HK5.out; omega⟩, ⟨by (with_reducible repeat (first | refine blk_drewN ?_ _ | refine blk_drew ?_ | refine blk_alloc ?_ _)); exact BK108.out⟩, ⟨by repeat (first | (with_reducible first | exact HB.out | apply below_alloc | apply pw_below_drewN | apply below_drew1 | refine below_set ?_ GE108.out) | exact HB.out)⟩⟩
                                          · rw [if_neg c52] at H
                                            have c52b0 : decide (32 ≤ (bt (rdOf ByteArray.empty l0 x10_3) x11_5)) = false := decide_eq_false c52
                                            clear c52
                                            by_cases c56 : x8_5 = true
                                            · subst c56
                                              have H1 : (secateurlaw04_WordBack.l1 k5 l0 false true (wrap64 (x9_3 + ((rdOf ByteArray.empty l0 x10_3).size : Int))) x10_3 (wrap64 (x11_5 + 1))) = some r := by rw [if_pos rfl] at H; exact H
                                              clear H
                                              have H := H1
                                              clear H1
                                              have H' := Aside0.mk H
                                              clear H
                                              have p121 : 0 ≤ (x10_3 : Int) := of_decide_eq_true (by first | (with_reducible assumption) | assumption)
                                              have q121 : x10_3 < (l0.length : Int) := of_decide_eq_true (by first | (with_reducible assumption) | assumption)
                                              obtain ⟨ad121, e121, hx121_0⟩ := Kd.at_string HR0.out x10_3 p121 q121
                                              obtain rfl : ad119 = ad121 := (by injection e121)
                                              replace hx121_0 := (HB.out.cell (World.block_lt_of_cell? w _ hx121_0)).trans hx121_0
                                              replace p121 := eq_true p121
                                              replace q121 := eq_true q121
                                              have p122 : 0 ≤ (x10_3 : Int) := of_decide_eq_true (by first | (with_reducible assumption) | assumption)
                                              have q122 : x10_3 < (l0.length : Int) := of_decide_eq_true (by first | (with_reducible assumption) | assumption)
                                              obtain ⟨ad122, e122, hx122_0⟩ := Kd.at_string HR0.out x10_3 p122 q122
                                              obtain rfl : ad119 = ad122 := (by injection e122)
                                              replace hx122_0 := (HB.out.cell (World.block_lt_of_cell? w _ hx122_0)).trans hx122_0
                                              replace p122 := eq_true p122
                                              replace q122 := eq_true q122
                                              have p51 : 0 ≤ (x11_5 : Int) := of_decide_eq_true (by first | (with_reducible assumption) | assumption)
                                              have q51 : x11_5 < ((rdOf ByteArray.empty l0 x10_3).size : Int) := of_decide_eq_true (by first | (with_reducible assumption) | assumption)
                                              have hx51 := bt_at (rdOf ByteArray.empty l0 x10_3) x11_5
                                              replace p51 := eq_true p51
                                              replace q51 := eq_true q51
                                              go_wp2
                                              go_roundg k5
                                              case measure => have := HJ2.out; have := HJ9.out; have := HK3.out; have := HJ42.out; have := HK5.out; omega
                                              case rel => exact ⟨(false), (true), (wrap64 (x11_5 + 1)), (by first | rfl | (simp; done) | (simp [*]; done)), (by first | rfl | (simp; done) | (simp [*]; done)), (by first | rfl | (simp; done) | (simp [*]; done)), H', ⟨by have := HJ2.out; have := HJ9.out; have := HK3.out; have := HJ42.out; have := HK5.out; omega⟩, ⟨by (with_reducible repeat (first | refine blk_drewN ?_ _ | refine blk_drew ?_ | refine blk_alloc ?_ _)); exact BK108.out⟩, ⟨by repeat (first | (with_reducible first | exact HB.out | apply below_alloc | apply pw_below_drewN | apply below_drew1 | refine below_set ?_ GE108.out) | exact HB.out)⟩⟩
                                            · replace c56 := Bool.eq_false_iff.mpr c56
                                              subst c56
                                              have H1 : (secateurlaw04_WordBack.l1 k5 l0 false ((bt (rdOf ByteArray.empty l0 x10_3) x11_5) == 32) (wrap64 (x9_3 + ((rdOf ByteArray.empty l0 x10_3).size : Int))) x10_3 (wrap64 (x11_5 + 1))) = some r := by rw [if_neg (show ¬ (false = true) by decide)] at H; exact H
                                              clear H
                                              have H := H1
                                              clear H1
                                              have H' := Aside0.mk H
                                              clear H
                                              have p121 : 0 ≤ (x10_3 : Int) := of_decide_eq_true (by first | (with_reducible assumption) | assumption)
                                              have q121 : x10_3 < (l0.length : Int) := of_decide_eq_true (by first | (with_reducible assumption) | assumption)
                                              obtain ⟨ad121, e121, hx121_0⟩ := Kd.at_string HR0.out x10_3 p121 q121
                                              obtain rfl : ad119 = ad121 := (by injection e121)
                                              replace hx121_0 := (HB.out.cell (World.block_lt_of_cell? w _ hx121_0)).trans hx121_0
                                              replace p121 := eq_true p121
                                              replace q121 := eq_true q121
                                              have p122 : 0 ≤ (x10_3 : Int) := of_decide_eq_true (by first | (with_reducible assumption) | assumption)
                                              have q122 : x10_3 < (l0.length : Int) := of_decide_eq_true (by first | (with_reducible assumption) | assumption)
                                              obtain ⟨ad122, e122, hx122_0⟩ := Kd.at_string HR0.out x10_3 p122 q122
                                              obtain rfl : ad119 = ad122 := (by injection e122)
                                              replace hx122_0 := (HB.out.cell (World.block_lt_of_cell? w _ hx122_0)).trans hx122_0
                                              replace p122 := eq_true p122
                                              replace q122 := eq_true q122
                                              have p51 : 0 ≤ (x11_5 : Int) := of_decide_eq_true (by first | (with_reducible assumption) | assumption)
                                              have q51 : x11_5 < ((rdOf ByteArray.empty l0 x10_3).size : Int) := of_decide_eq_true (by first | (with_reducible assumption) | assumption)
                                              have hx51 := bt_at (rdOf ByteArray.empty l0 x10_3) x11_5
                                              replace p51 := eq_true p51
                                              replace q51 := eq_true q51
                                              have p125 : 0 ≤ (x10_3 : Int) := of_decide_eq_true (by first | (with_reducible assumption) | assumption)
                                              have q125 : x10_3 < (l0.length : Int) := of_decide_eq_true (by first | (with_reducible assumption) | assumption)
                                              obtain ⟨ad125, e125, hx125_0⟩ := Kd.at_string HR0.out x10_3 p125 q125
                                              obtain rfl : ad119 = ad125 := (by injection e125)
                                              replace hx125_0 := (HB.out.cell (World.block_lt_of_cell? w _ hx125_0)).trans hx125_0
                                              replace p125 := eq_true p125
                                              replace q125 := eq_true q125
                                              have p57 : 0 ≤ (x11_5 : Int) := of_decide_eq_true (by first | (with_reducible assumption) | assumption)
                                              have q57 : x11_5 < ((rdOf ByteArray.empty l0 x10_3).size : Int) := of_decide_eq_true (by first | (with_reducible assumption) | assumption)
                                              have hx57 := bt_at (rdOf ByteArray.empty l0 x10_3) x11_5
                                              replace p57 := eq_true p57
                                              replace q57 := eq_true q57
                                              go_wp2
                                              go_roundg k5
                                              case measure => have := HJ2.out; have := HJ9.out; have := HK3.out; have := HJ42.out; have := HK5.out; omega
                                              case rel => exact ⟨(false), (((bt (rdOf ByteArray.empty l0 x10_3) x11_5) == 32)), (wrap64 (x11_5 + 1)), (by first | rfl | (simp; done) | (simp [*]; done)), (by first | rfl | (simp; done) | (simp [*]; done)), (by first | rfl | (simp; done) | (simp [*]; done)), H', ⟨by have := HJ2.out; have := HJ9.out; have := HK3.out; have := HJ42.out; have := HK5.out; omega⟩, ⟨by (with_reducible repeat (first | refine blk_drewN ?_ _ | refine blk_drew ?_ | refine blk_alloc ?_ _)); exact BK108.out⟩, ⟨by repeat (first | (with_reducible first | exact HB.out | apply below_alloc | apply pw_below_drewN | apply below_drew1 | refine below_set ?_ GE108.out) | exact HB.out)⟩⟩
                                        · rw [if_neg c50] at H
                                          exact absurd H (by simp)
                                      · replace c49 := Bool.eq_false_iff.mpr c49
                                        subst c49
                                        have H1 : (if x8_5 = true then (secateurlaw04_WordBack.l1 k5 l0 false true (wrap64 (x9_3 + ((rdOf ByteArray.empty l0 x10_3).size : Int))) x10_3 (wrap64 (x11_5 + 1))) else (if 0 ≤ x11_5 then (secateurlaw04_WordBack.l1 k5 l0 false ((bt (rdOf ByteArray.empty l0 x10_3) x11_5) == 32) (wrap64 (x9_3 + ((rdOf ByteArray.empty l0 x10_3).size : Int))) x10_3 (wrap64 (x11_5 + 1))) else (none))) = some r := by rw [if_neg (show ¬ (false = true) by decide)] at H; exact H
                                        clear H
                                        have H := H1
                                        clear H1
                                        by_cases c58 : x8_5 = true
                                        · subst c58
                                          have H1 : (secateurlaw04_WordBack.l1 k5 l0 false true (wrap64 (x9_3 + ((rdOf ByteArray.empty l0 x10_3).size : Int))) x10_3 (wrap64 (x11_5 + 1))) = some r := by rw [if_pos rfl] at H; exact H
                                          clear H
                                          have H := H1
                                          clear H1
                                          have H' := Aside0.mk H
                                          clear H
                                          have p121 : 0 ≤ (x10_3 : Int) := of_decide_eq_true (by first | (with_reducible assumption) | assumption)
                                          have q121 : x10_3 < (l0.length : Int) := of_decide_eq_true (by first | (with_reducible assumption) | assumption)
                                          obtain ⟨ad121, e121, hx121_0⟩ := Kd.at_string HR0.out x10_3 p121 q121
                                          obtain rfl : ad119 = ad121 := (by injection e121)
                                          replace hx121_0 := (HB.out.cell (World.block_lt_of_cell? w _ hx121_0)).trans hx121_0
                                          replace p121 := eq_true p121
                                          replace q121 := eq_true q121
                                          go_wp2
                                          go_roundg k5
                                          case measure => have := HJ2.out; have := HJ9.out; have := HK3.out; have := HJ42.out; have := HK5.out; omega
                                          case rel => exact ⟨(false), (true), (wrap64 (x11_5 + 1)), (by first | rfl | (simp; done) | (simp [*]; done)), (by first | rfl | (simp; done) | (simp [*]; done)), (by first | rfl | (simp; done) | (simp [*]; done)), H', ⟨by have := HJ2.out; have := HJ9.out; have := HK3.out; have := HJ42.out; have := HK5.out; omega⟩, ⟨by (with_reducible repeat (first | refine blk_drewN ?_ _ | refine blk_drew ?_ | refine blk_alloc ?_ _)); exact BK108.out⟩, ⟨by repeat (first | (with_reducible first | exact HB.out | apply below_alloc | apply pw_below_drewN | apply below_drew1 | refine below_set ?_ GE108.out) | exact HB.out)⟩⟩
                                        · replace c58 := Bool.eq_false_iff.mpr c58
                                          subst c58
                                          have H1 : (if 0 ≤ x11_5 then (secateurlaw04_WordBack.l1 k5 l0 false ((bt (rdOf ByteArray.empty l0 x10_3) x11_5) == 32) (wrap64 (x9_3 + ((rdOf ByteArray.empty l0 x10_3).size : Int))) x10_3 (wrap64 (x11_5 + 1))) else (none)) = some r := by rw [if_neg (show ¬ (false = true) by decide)] at H; exact H
                                          clear H
                                          have H := H1
                                          clear H1
                                          by_cases c59 : 0 ≤ x11_5
                                          · rw [if_pos c59] at H
                                            have c59b0 : decide (0 ≤ x11_5) = true := decide_eq_true c59
                                            clear c59
                                            have H' := Aside0.mk H
                                            clear H
                                            have p121 : 0 ≤ (x10_3 : Int) := of_decide_eq_true (by first | (with_reducible assumption) | assumption)
                                            have q121 : x10_3 < (l0.length : Int) := of_decide_eq_true (by first | (with_reducible assumption) | assumption)
                                            obtain ⟨ad121, e121, hx121_0⟩ := Kd.at_string HR0.out x10_3 p121 q121
                                            obtain rfl : ad119 = ad121 := (by injection e121)
                                            replace hx121_0 := (HB.out.cell (World.block_lt_of_cell? w _ hx121_0)).trans hx121_0
                                            replace p121 := eq_true p121
                                            replace q121 := eq_true q121
                                            have p126 : 0 ≤ (x10_3 : Int) := of_decide_eq_true (by first | (with_reducible assumption) | assumption)
                                            have q126 : x10_3 < (l0.length : Int) := of_decide_eq_true (by first | (with_reducible assumption) | assumption)
                                            obtain ⟨ad126, e126, hx126_0⟩ := Kd.at_string HR0.out x10_3 p126 q126
                                            obtain rfl : ad119 = ad126 := (by injection e126)
                                            replace hx126_0 := (HB.out.cell (World.block_lt_of_cell? w _ hx126_0)).trans hx126_0
                                            replace p126 := eq_true p126
                                            replace q126 := eq_true q126
                                            have p60 : 0 ≤ (x11_5 : Int) := of_decide_eq_true (by first | (with_reducible assumption) | assumption)
                                            have q60 : x11_5 < ((rdOf ByteArray.empty l0 x10_3).size : Int) := of_decide_eq_true (by first | (with_reducible assumption) | assumption)
                                            have hx60 := bt_at (rdOf ByteArray.empty l0 x10_3) x11_5
                                            replace p60 := eq_true p60
                                            replace q60 := eq_true q60
                                            go_wp2
                                            go_roundg k5
                                            case measure => have := HJ2.out; have := HJ9.out; have := HK3.out; have := HJ42.out; have := HK5.out; omega
                                            case rel => exact ⟨(false), (((bt (rdOf ByteArray.empty l0 x10_3) x11_5) == 32)), (wrap64 (x11_5 + 1)), (by first | rfl | (simp; done) | (simp [*]; done)), (by first | rfl | (simp; done) | (simp [*]; done)), (by first | rfl | (simp; done) | (simp [*]; done)), H', ⟨by have := HJ2.out; have := HJ9.out; have := HK3.out; have := HJ42.out; have := HK5.out; omega⟩, ⟨by (with_reducible repeat (first | refine blk_drewN ?_ _ | refine blk_drew ?_ | refine blk_alloc ?_ _)); exact BK108.out⟩, ⟨by repeat (first | (with_reducible first | exact HB.out | apply below_alloc | apply pw_below_drewN | apply below_drew1 | refine below_set ?_ GE108.out) | exact HB.out)⟩⟩
                                          · rw [if_neg c59] at H
                                            exact absurd H (by simp)
                                    · rw [if_neg c48] at H
                                      have c48b0 : decide (x11_5 < ((rdOf ByteArray.empty l0 x10_3).size : Int)) = false := decide_eq_false c48
                                      clear c48
                                      have H' := Aside0.mk H
                                      clear H
                                      have p121 : 0 ≤ (x10_3 : Int) := of_decide_eq_true (by first | (with_reducible assumption) | assumption)
                                      have q121 : x10_3 < (l0.length : Int) := of_decide_eq_true (by first | (with_reducible assumption) | assumption)
                                      obtain ⟨ad121, e121, hx121_0⟩ := Kd.at_string HR0.out x10_3 p121 q121
                                      obtain rfl : ad119 = ad121 := (by injection e121)
                                      replace hx121_0 := (HB.out.cell (World.block_lt_of_cell? w _ hx121_0)).trans hx121_0
                                      replace p121 := eq_true p121
                                      replace q121 := eq_true q121
                                      go_wp2
                                      go_roundg k5
                                      case measure => have := HJ2.out; have := HJ9.out; have := HK3.out; have := HJ42.out; have := HK5.out; omega
                                      case rel => exact ⟨(x7_5), (x8_5), ((wrap64 (x9_3 + ((rdOf ByteArray.empty l0 x10_3).size : Int)))), (wrap64 (x10_3 + 1)), (by first | rfl | (simp; done) | (simp [*]; done)), (by first | rfl | (simp; done) | (simp [*]; done)), (by first | rfl | (simp; done) | (simp [*]; done)), (by first | rfl | (simp; done) | (simp [*]; done)), H', ⟨by have := HJ2.out; have := HJ9.out; have := HK3.out; have := HJ42.out; have := HK5.out; omega⟩, ⟨by (with_reducible repeat (first | refine blk_drewN ?_ _ | refine blk_drew ?_ | refine blk_alloc ?_ _)); exact BK108.out⟩, ⟨by repeat (first | (with_reducible first | exact HB.out | apply below_alloc | apply pw_below_drewN | apply below_drew1 | refine below_set ?_ GE108.out) | exact HB.out)⟩⟩
                                  · rw [if_neg c47] at H
                                    exact absurd H (by simp)
                                · rw [if_neg c46] at H
                                  exact absurd H (by simp)
                    · rw [if_neg c42] at H
                      exact absurd H (by simp)
                  · rw [if_neg c41] at H
                    have c41b0 : decide (x10_3 < (l0.length : Int)) = false := decide_eq_false c41
                    clear c41
                    replace H := Option.bind_eq_some_iff.mp H
                    obtain ⟨t127, A610, H⟩ := H
                    replace H : ((word_Lines.f t127).bind fun bt128 => ((secateurref04_Text.f l0).bind fun t134 => (if t127.toList = t134.toList then ((word_Line.f l0).bind fun t135 => ((secateurref04_Line.f l0).bind fun t136 => (if t135.toList = t136.toList then (if x7_3 = true then (if bt128.2.1 = 0 then ((secateurref01_SameTexts.f bt128.1 l0).bind fun t137 => (secateurlaw04_WordBack.j5 k3 l0 x8_3 (!t137))) else (secateurlaw04_WordBack.j5 k3 l0 x8_3 true)) else (secateurlaw04_WordBack.j5 k3 l0 x8_3 false)) else (secateurlaw04_WordBack.j5 k3 l0 x8_3 true)))) else (secateurlaw04_WordBack.j5 k3 l0 x8_3 true)))) = some r := H
                    have A61 := Aside0.mk A610
                    clear A610
                    replace H := Option.bind_eq_some_iff.mp H
                    obtain ⟨⟨t128, t131, t132⟩, A620, H⟩ := H
                    replace H : ((secateurref04_Text.f l0).bind fun t134 => (if t127.toList = t134.toList then ((word_Line.f l0).bind fun t135 => ((secateurref04_Line.f l0).bind fun t136 => (if t135.toList = t136.toList then (if x7_3 = true then (if t131 = 0 then ((secateurref01_SameTexts.f t128 l0).bind fun t137 => (secateurlaw04_WordBack.j5 k3 l0 x8_3 (!t137))) else (secateurlaw04_WordBack.j5 k3 l0 x8_3 true)) else (secateurlaw04_WordBack.j5 k3 l0 x8_3 false)) else (secateurlaw04_WordBack.j5 k3 l0 x8_3 true)))) else (secateurlaw04_WordBack.j5 k3 l0 x8_3 true))) = some r := H
                    have A62 := Aside0.mk A620
                    clear A620
                    have HC63 := Aside0.mk H
                    clear H
                    go_upto_region 20 with (first | ((with_reducible refine gate_callee (f := 37) rfl ?_); refine goesL_ (some 110) rfl rfl Tryd.func37 (by kernel_rfl) rfl #[.slice A0 l0.length c0] rfl (by (try simp only [List.map_toArray, List.map_cons, List.map_nil]); first | done | rfl | (simp only [List.length_drop, List.length_take]; rfl)) ?_; (with_reducible refine (word_Text.calls _ _ l0 t127 _ ?side1 ?side2 A61.out).mono ?_); (case side1 => repeat (first | exact (Kd.C_below HR0.out HB.out) | (with_reducible refine Kd.C_alloc ?_ _) | (with_reducible refine Kd.C_drewN ?_ _) | (with_reducible refine Kd.C_drew ?_))); (case side2 => exact HC0.out); rintro e w64 ⟨rfl, hb⟩; refine ⟨_, rfl, ?_⟩; have n0_ := Aside0.mk (blk_below (g := gb108) (o := .cells #[.int .i64 t106, .int .i64 t107] 31 (0, 0)) (by (with_reducible repeat (first | refine blk_drewN ?_ _ | refine blk_drew ?_ | refine blk_alloc ?_ _)); exact BK108.out) hb); have n1_ := Aside0.mk (below_step (by repeat (first | (with_reducible first | exact HB.out | apply below_alloc | apply pw_below_drewN | apply below_drew1 | refine below_set ?_ GE108.out) | exact HB.out)) hb); clear BK108; clear HB; have BK108 := n0_; have HB := n1_; clear n0_ n1_; (try clear hb); (try clear hb2); (try clear hk); (try clear hi)) | ((with_reducible refine gate_callee (f := 40) rfl ?_); refine goesL_ (some 113) rfl rfl Tryd.func40 (by kernel_rfl) rfl #[.string t127] rfl (by (try simp only [List.map_toArray, List.map_cons, List.map_nil]); first | done | rfl | (simp only [List.length_drop, List.length_take]; rfl)) ?_; (with_reducible refine (word_Lines.calls t127 t128 t131 t132 _ ?side1 A62.out).mono ?_); (case side1 => exact MaxL.below HGMaxL.out (by repeat (first | (with_reducible first | exact HB.out | apply below_alloc | apply pw_below_drewN | apply below_drew1 | refine below_set ?_ GE108.out) | exact HB.out))); rintro e w65 ⟨v129, rfl, ho0, hb⟩; refine ⟨_, rfl, ?_⟩; have n0_ := Aside0.mk (Kd.R_lower ho0 (below_size (by repeat (first | (with_reducible first | exact HB.out | apply below_alloc | apply pw_below_drewN | apply below_drew1 | refine below_set ?_ GE108.out) | exact HB.out)))); have n1_ := Aside0.mk (blk_below (g := gb108) (o := .cells #[.int .i64 t106, .int .i64 t107] 31 (0, 0)) (by (with_reducible repeat (first | refine blk_drewN ?_ _ | refine blk_drew ?_ | refine blk_alloc ?_ _)); exact BK108.out) hb); have n2_ := Aside0.mk (below_step (by repeat (first | (with_reducible first | exact HB.out | apply below_alloc | apply pw_below_drewN | apply below_drew1 | refine below_set ?_ GE108.out) | exact HB.out)) hb); clear BK108; clear HB; have HO130 := n0_; have BK108 := n1_; have HB := n2_; clear n0_ n1_ n2_; (try clear hb); (try clear hb2); (try clear hk); (try clear hi); (try clear ho0)) | ((with_reducible refine gate_dst (N := 14) rfl ?_); (try (refine gate_guard (by rfl) ?_; dsimp only)); refine box_event ?hg (N := 14) ?hd (cs := #[.int .i64 0, .int .i64 0]) (t := 31) ?hr ?_; (case hd => rfl); (case hg => rfl); (case hr => first | (go_simp; done) | (go_simp; rfl)); intro gb133 hg w66 hbox hb; have n0_ := Aside0.mk (Kd.R_below (by (with_reducible repeat (first | apply Kd.R_alloc | apply Kd.R_drewN | apply Kd.R_drew)); exact HO130.out) hb); have n1_ := Aside0.mk (blk_below (g := gb108) (o := .cells #[.int .i64 t106, .int .i64 t107] 31 (0, 0)) (by (with_reducible repeat (first | refine blk_drewN ?_ _ | refine blk_drew ?_ | refine blk_alloc ?_ _)); exact BK108.out) hb); have n2_ := Aside0.mk (below_step (by repeat (first | (with_reducible first | exact HB.out | apply below_alloc | apply pw_below_drewN | apply below_drew1 | refine below_set ?_ GE108.out) | exact HB.out)) hb); have n3_ := Aside0.mk (hbox); have n4_ := Aside0.mk ((by rw [hg]; exact (below_size (by repeat (first | (with_reducible first | exact HB.out | apply below_alloc | apply pw_below_drewN | apply below_drew1 | refine below_set ?_ GE108.out) | exact HB.out))) : w.heap.size ≤ gb133)); have n5_ := Aside0.mk ((by rw [hg]; exact (below_size (by repeat (first | (with_reducible first | exact HB.out | apply below_alloc | apply pw_below_drewN | apply below_drew1 | refine below_set ?_ GE108.out) | exact HB.out))) : w.heap.size ≤ gb133)); have n6_ := Aside0.mk ((by rw [hg]; exact Nat.ne_of_lt (blk_lt (g := gb108) (o := .cells #[.int .i64 t106, .int .i64 t107] 31 (0, 0)) (by (with_reducible repeat (first | refine blk_drewN ?_ _ | refine blk_drew ?_ | refine blk_alloc ?_ _)); exact BK108.out)) : gb108 ≠ gb133)); have n7_ := Aside0.mk ((by rw [hg]; exact Nat.ne_of_gt (blk_lt (g := gb108) (o := .cells #[.int .i64 t106, .int .i64 t107] 31 (0, 0)) (by (with_reducible repeat (first | refine blk_drewN ?_ _ | refine blk_drew ?_ | refine blk_alloc ?_ _)); exact BK108.out)) : gb133 ≠ gb108)); clear HO130; clear BK108; clear HB; have HO130 := n0_; have BK108 := n1_; have HB := n2_; have BK133 := n3_; have GW133 := n4_; have GE133 := n5_; have NB108_133 := n6_; have NB133_108 := n7_; clear n0_ n1_ n2_ n3_ n4_ n5_ n6_ n7_; clear hb hbox hg; have hnb67 := NB133_108.out; have hnc67 := NB108_133.out; have hcz68_0 : w66.cell? ⟨gb133, 0, none⟩ = some (.int .i64 0) := (blk_cell BK133.out 0).trans rfl; have hcz68_1 : w66.cell? ⟨gb133, 1, none⟩ = some (.int .i64 0) := (blk_cell BK133.out 1).trans rfl; have hfz68_0 := blk_frozen BK133.out 0; have hfz68_1 := blk_frozen BK133.out 1))
                    (try simp only [Act.put, List.setIfInBounds_toArray, List.set_cons_zero, List.set_cons_succ])
                    go_cut [140] (fun v140 wc => ∃ (kq : Nat) (x140_62 : Bool), v140 = .bool x140_62 ∧ Aside0 (secateurlaw04_WordBack.j5 kq l0 x8_3 x140_62 = some r) ∧ Aside0 (kq ≤ k3) ∧ Aside0 (wc.heap[gb108]? = some (.cells #[.int .i64 t106, .int .i64 t107] 31 (0, 0))) ∧ Aside0 (wc.heap[gb133]? = some (.cells #[.int .i64 t131, .int .i64 t132] 31 (0, 0))) ∧ Aside0 (Below w.heap.size w wc))
                    case first =>
                      have H := HC63.out
                      clear HC63
                      replace H := Option.bind_eq_some_iff.mp H
                      obtain ⟨t134, A690, H⟩ := H
                      replace H : (if t127.toList = t134.toList then ((word_Line.f l0).bind fun t135 => ((secateurref04_Line.f l0).bind fun t136 => (if t135.toList = t136.toList then (if x7_3 = true then (if t131 = 0 then ((secateurref01_SameTexts.f t128 l0).bind fun t137 => (secateurlaw04_WordBack.j5 k3 l0 x8_3 (!t137))) else (secateurlaw04_WordBack.j5 k3 l0 x8_3 true)) else (secateurlaw04_WordBack.j5 k3 l0 x8_3 false)) else (secateurlaw04_WordBack.j5 k3 l0 x8_3 true)))) else (secateurlaw04_WordBack.j5 k3 l0 x8_3 true)) = some r := H
                      have A69 := Aside0.mk A690
                      clear A690
                      by_cases c70 : t127.toList = t134.toList
                      · rw [if_pos c70] at H
                        have c70b0 : (t127.toList == t134.toList) = true := beq_iff_eq.mpr c70
                        have c70b1 : (t127.toList != t134.toList) = false := bne_eq_false_iff_eq.mpr c70
                        clear c70
                        (first | rw [c70b0] | rw [c70b1] | (simp only [i64_w, i32_w]; rw [c70b0]) | skip)
                        replace H := Option.bind_eq_some_iff.mp H
                        obtain ⟨t135, A710, H⟩ := H
                        replace H : ((secateurref04_Line.f l0).bind fun t136 => (if t135.toList = t136.toList then (if x7_3 = true then (if t131 = 0 then ((secateurref01_SameTexts.f t128 l0).bind fun t137 => (secateurlaw04_WordBack.j5 k3 l0 x8_3 (!t137))) else (secateurlaw04_WordBack.j5 k3 l0 x8_3 true)) else (secateurlaw04_WordBack.j5 k3 l0 x8_3 false)) else (secateurlaw04_WordBack.j5 k3 l0 x8_3 true))) = some r := H
                        have A71 := Aside0.mk A710
                        clear A710
                        replace H := Option.bind_eq_some_iff.mp H
                        obtain ⟨t136, A720, H⟩ := H
                        replace H : (if t135.toList = t136.toList then (if x7_3 = true then (if t131 = 0 then ((secateurref01_SameTexts.f t128 l0).bind fun t137 => (secateurlaw04_WordBack.j5 k3 l0 x8_3 (!t137))) else (secateurlaw04_WordBack.j5 k3 l0 x8_3 true)) else (secateurlaw04_WordBack.j5 k3 l0 x8_3 false)) else (secateurlaw04_WordBack.j5 k3 l0 x8_3 true)) = some r := H
                        have A72 := Aside0.mk A720
                        clear A720
                        by_cases c73 : t135.toList = t136.toList
                        · rw [if_pos c73] at H
                          have c73b0 : (t135.toList == t136.toList) = true := beq_iff_eq.mpr c73
                          have c73b1 : (t135.toList != t136.toList) = false := bne_eq_false_iff_eq.mpr c73
                          clear c73
                          by_cases c74 : x7_3 = true
                          · subst c74
                            have H1 : (if t131 = 0 then ((secateurref01_SameTexts.f t128 l0).bind fun t137 => (secateurlaw04_WordBack.j5 k3 l0 x8_3 (!t137))) else (secateurlaw04_WordBack.j5 k3 l0 x8_3 true)) = some r := by rw [if_pos rfl] at H; exact H
                            clear H
                            have H := H1
                            clear H1
                            by_cases c75 : t131 = 0
                            · rw [if_pos c75] at H
                              have c75b0 : (t131 == 0) = true := beq_iff_eq.mpr c75
                              have c75b1 : (t131 != 0) = false := bne_eq_false_iff_eq.mpr c75
                              clear c75
                              replace H := Option.bind_eq_some_iff.mp H
                              obtain ⟨t137, A760, H⟩ := H
                              replace H : (secateurlaw04_WordBack.j5 k3 l0 x8_3 (!t137)) = some r := H
                              have A76 := Aside0.mk A760
                              clear A760
                              have H' := Aside0.mk H
                              clear H
                              go_wp2_with (first | ((with_reducible refine gate_callee (f := 46) rfl ?_); refine goesL_ (some 118) rfl rfl Tryd.func46 (by kernel_rfl) rfl #[.slice A0 l0.length c0] rfl (by (try simp only [List.map_toArray, List.map_cons, List.map_nil]); first | done | rfl | (simp only [List.length_drop, List.length_take]; rfl)) ?_; (with_reducible refine (secateurref04_Text.calls _ _ l0 t134 _ ?side1 ?side2 A69.out).mono ?_); (case side1 => exact Kd.C_below HR0.out (by repeat (first | (with_reducible first | exact HB.out | apply below_alloc | apply pw_below_drewN | apply below_drew1 | refine below_set ?_ GE108.out | refine below_set ?_ GE133.out) | exact HB.out))); (case side2 => exact HC0.out); rintro e w' ⟨rfl, ⟨nd, rfl⟩⟩; refine ⟨_, rfl, ?_⟩) | (go_at_call 45; (with_reducible refine (word_Line.calls _ _ l0 t135 _ ?side1 ?side2 A71.out).mono ?_); (case side1 => exact Kd.C_below HR0.out (by repeat (first | (with_reducible first | exact HB.out | apply below_alloc | apply pw_below_drewN | apply below_drew1 | refine below_set ?_ GE108.out | refine below_set ?_ GE133.out) | exact HB.out))); (case side2 => exact HC0.out); rintro e w77 ⟨rfl, hb⟩; have n0_ := Aside0.mk (Kd.R_below (by (with_reducible repeat (first | apply Kd.R_alloc | apply Kd.R_drewN | apply Kd.R_drew)); exact (Kd.R_mono (Kd.R_far (p := ⟨gb133, 1, none⟩) (Kd.R_far (p := ⟨gb133, 0, none⟩) (Kd.R_types HO130.out BK133.out (by decide)) (fun _ hk => hk.2) (.int .i64 t131)) (fun _ hk => hk.2) (.int .i64 t132)) (fun _ h_ => h_.1))) hb); have n1_ := Aside0.mk (blk_below (g := gb108) (o := .cells #[.int .i64 t106, .int .i64 t107] 31 (0, 0)) (by (with_reducible repeat (first | refine blk_drewN ?_ _ | refine blk_drew ?_ | refine blk_alloc ?_ _)); refine blk_far ?_ NB108_133.out _; (with_reducible repeat (first | refine blk_drewN ?_ _ | refine blk_drew ?_ | refine blk_alloc ?_ _)); refine blk_far ?_ NB108_133.out _; (with_reducible repeat (first | refine blk_drewN ?_ _ | refine blk_drew ?_ | refine blk_alloc ?_ _)); exact BK108.out) hb); have n2_ := Aside0.mk (blk_below (g := gb133) (o := .cells #[.int .i64 t131, .int .i64 t132] 31 (0, 0)) (by (with_reducible repeat (first | refine blk_drewN ?_ _ | refine blk_drew ?_ | refine blk_alloc ?_ _)); refine blk_put (cs := #[.int .i64 t131, .int .i64 0]) ?_ 1 _ rfl; (with_reducible repeat (first | refine blk_drewN ?_ _ | refine blk_drew ?_ | refine blk_alloc ?_ _)); refine blk_put (cs := #[.int .i64 0, .int .i64 0]) ?_ 0 _ rfl; (with_reducible repeat (first | refine blk_drewN ?_ _ | refine blk_drew ?_ | refine blk_alloc ?_ _)); exact BK133.out) hb); have n3_ := Aside0.mk (below_step (by repeat (first | (with_reducible first | exact HB.out | apply below_alloc | apply pw_below_drewN | apply below_drew1 | refine below_set ?_ GE108.out | refine below_set ?_ GE133.out) | exact HB.out)) hb); clear HO130; clear BK108; clear BK133; clear HB; have HO130 := n0_; have BK108 := n1_; have BK133 := n2_; have HB := n3_; clear n0_ n1_ n2_ n3_; (try clear hb); (try clear hb2); (try clear hk); (try clear hi)) | (go_at_call 47; (with_reducible refine (secateurref04_Line.calls _ _ l0 t136 _ ?side1 ?side2 A72.out).mono ?_); (case side1 => repeat (first | exact (Kd.C_below HR0.out HB.out) | (with_reducible refine Kd.C_alloc ?_ _) | (with_reducible refine Kd.C_drewN ?_ _) | (with_reducible refine Kd.C_drew ?_))); (case side2 => exact HC0.out); rintro e w' ⟨rfl, ⟨nd, rfl⟩⟩; have hnb78 := NB133_108.out; have hnc78 := NB108_133.out; have hcz79_0 : w77.cell? ⟨gb133, 0, none⟩ = some (.int .i64 t131) := (blk_cell BK133.out 0).trans rfl; have hcz79_1 : w77.cell? ⟨gb133, 1, none⟩ = some (.int .i64 t132) := (blk_cell BK133.out 1).trans rfl; have hfz79_0 := blk_frozen BK133.out 0; have hfz79_1 := blk_frozen BK133.out 1; obtain ⟨Ao80, co80, eo80⟩ := Kd.R_slice HO130.out; subst eo80) | (go_at_call 42; (with_reducible refine (secateurref01_SameTexts.calls _ _ t128 _ _ l0 t137 _ ?side1 ?side2 ?side3 ?side4 A76.out).mono ?_); (case side1 => repeat (first | exact (Kd.R_reads' HO130.out).2.2 | (with_reducible refine Kd.C_alloc ?_ _) | (with_reducible refine Kd.C_drewN ?_ _) | (with_reducible refine Kd.C_drew ?_))); (case side2 => exact (Kd.R_reads' HO130.out).2.1); (case side3 => repeat (first | exact (Kd.C_below HR0.out (by repeat (first | (with_reducible first | exact HB.out | apply below_alloc | apply pw_below_drewN | apply below_drew1 | refine below_set ?_ GE108.out | refine below_set ?_ GE133.out) | exact HB.out))) | (with_reducible refine Kd.C_alloc ?_ _) | (with_reducible refine Kd.C_drewN ?_ _) | (with_reducible refine Kd.C_drew ?_))); (case side4 => exact HC0.out); rintro e w' ⟨rfl, ⟨nd, rfl⟩⟩))
                              go_meet
                              case rel => exact ⟨_, (!t137), (by first | rfl | (simp; done) | (simp [*]; done)), H', ⟨by have := HJ2.out; have := HJ9.out; have := HK3.out; first | omega | exact Nat.le_refl _⟩, ⟨by (with_reducible repeat (first | refine blk_drewN ?_ _ | refine blk_drew ?_ | refine blk_alloc ?_ _)); exact BK108.out⟩, ⟨by (with_reducible repeat (first | refine blk_drewN ?_ _ | refine blk_drew ?_ | refine blk_alloc ?_ _)); exact BK133.out⟩, ⟨by repeat (first | (with_reducible first | exact HB.out | apply below_alloc | apply pw_below_drewN | apply below_drew1 | refine below_set ?_ GE108.out | refine below_set ?_ GE133.out) | exact HB.out)⟩⟩
                            · rw [if_neg c75] at H
                              have c75b0 : (t131 == 0) = false := beq_eq_false_iff_ne.mpr c75
                              have c75b1 : (t131 != 0) = true := bne_iff_ne.mpr c75
                              have H' := Aside0.mk H
                              clear H
                              go_wp2_with (first | ((with_reducible refine gate_callee (f := 46) rfl ?_); refine goesL_ (some 118) rfl rfl Tryd.func46 (by kernel_rfl) rfl #[.slice A0 l0.length c0] rfl (by (try simp only [List.map_toArray, List.map_cons, List.map_nil]); first | done | rfl | (simp only [List.length_drop, List.length_take]; rfl)) ?_; (with_reducible refine (secateurref04_Text.calls _ _ l0 t134 _ ?side1 ?side2 A69.out).mono ?_); (case side1 => exact Kd.C_below HR0.out (by repeat (first | (with_reducible first | exact HB.out | apply below_alloc | apply pw_below_drewN | apply below_drew1 | refine below_set ?_ GE108.out | refine below_set ?_ GE133.out) | exact HB.out))); (case side2 => exact HC0.out); rintro e w' ⟨rfl, ⟨nd, rfl⟩⟩; refine ⟨_, rfl, ?_⟩) | (go_at_call 45; (with_reducible refine (word_Line.calls _ _ l0 t135 _ ?side1 ?side2 A71.out).mono ?_); (case side1 => exact Kd.C_below HR0.out (by repeat (first | (with_reducible first | exact HB.out | apply below_alloc | apply pw_below_drewN | apply below_drew1 | refine below_set ?_ GE108.out | refine below_set ?_ GE133.out) | exact HB.out))); (case side2 => exact HC0.out); rintro e w81 ⟨rfl, hb⟩; have n0_ := Aside0.mk (Kd.R_below (by (with_reducible repeat (first | apply Kd.R_alloc | apply Kd.R_drewN | apply Kd.R_drew)); exact (Kd.R_mono (Kd.R_far (p := ⟨gb133, 1, none⟩) (Kd.R_far (p := ⟨gb133, 0, none⟩) (Kd.R_types HO130.out BK133.out (by decide)) (fun _ hk => hk.2) (.int .i64 t131)) (fun _ hk => hk.2) (.int .i64 t132)) (fun _ h_ => h_.1))) hb); have n1_ := Aside0.mk (blk_below (g := gb108) (o := .cells #[.int .i64 t106, .int .i64 t107] 31 (0, 0)) (by (with_reducible repeat (first | refine blk_drewN ?_ _ | refine blk_drew ?_ | refine blk_alloc ?_ _)); refine blk_far ?_ NB108_133.out _; (with_reducible repeat (first | refine blk_drewN ?_ _ | refine blk_drew ?_ | refine blk_alloc ?_ _)); refine blk_far ?_ NB108_133.out _; (with_reducible repeat (first | refine blk_drewN ?_ _ | refine blk_drew ?_ | refine blk_alloc ?_ _)); exact BK108.out) hb); have n2_ := Aside0.mk (blk_below (g := gb133) (o := .cells #[.int .i64 t131, .int .i64 t132] 31 (0, 0)) (by (with_reducible repeat (first | refine blk_drewN ?_ _ | refine blk_drew ?_ | refine blk_alloc ?_ _)); refine blk_put (cs := #[.int .i64 t131, .int .i64 0]) ?_ 1 _ rfl; (with_reducible repeat (first | refine blk_drewN ?_ _ | refine blk_drew ?_ | refine blk_alloc ?_ _)); refine blk_put (cs := #[.int .i64 0, .int .i64 0]) ?_ 0 _ rfl; (with_reducible repeat (first | refine blk_drewN ?_ _ | refine blk_drew ?_ | refine blk_alloc ?_ _)); exact BK133.out) hb); have n3_ := Aside0.mk (below_step (by repeat (first | (with_reducible first | exact HB.out | apply below_alloc | apply pw_below_drewN | apply below_drew1 | refine below_set ?_ GE108.out | refine below_set ?_ GE133.out) | exact HB.out)) hb); clear HO130; clear BK108; clear BK133; clear HB; have HO130 := n0_; have BK108 := n1_; have BK133 := n2_; have HB := n3_; clear n0_ n1_ n2_ n3_; (try clear hb); (try clear hb2); (try clear hk); (try clear hi)) | (go_at_call 47; (with_reducible refine (secateurref04_Line.calls _ _ l0 t136 _ ?side1 ?side2 A72.out).mono ?_); (case side1 => repeat (first | exact (Kd.C_below HR0.out HB.out) | (with_reducible refine Kd.C_alloc ?_ _) | (with_reducible refine Kd.C_drewN ?_ _) | (with_reducible refine Kd.C_drew ?_))); (case side2 => exact HC0.out); rintro e w' ⟨rfl, ⟨nd, rfl⟩⟩; have hnb82 := NB133_108.out; have hnc82 := NB108_133.out; have hcz83_0 : w81.cell? ⟨gb133, 0, none⟩ = some (.int .i64 t131) := (blk_cell BK133.out 0).trans rfl; have hcz83_1 : w81.cell? ⟨gb133, 1, none⟩ = some (.int .i64 t132) := (blk_cell BK133.out 1).trans rfl; have hfz83_0 := blk_frozen BK133.out 0; have hfz83_1 := blk_frozen BK133.out 1))
                              go_meet
                              case rel => exact ⟨_, (true), (by first | rfl | (simp; done) | (simp [*]; done)), H', ⟨by have := HJ2.out; have := HJ9.out; have := HK3.out; first | omega | exact Nat.le_refl _⟩, ⟨by (with_reducible repeat (first | refine blk_drewN ?_ _ | refine blk_drew ?_ | refine blk_alloc ?_ _)); exact BK108.out⟩, ⟨by (with_reducible repeat (first | refine blk_drewN ?_ _ | refine blk_drew ?_ | refine blk_alloc ?_ _)); exact BK133.out⟩, ⟨by repeat (first | (with_reducible first | exact HB.out | apply below_alloc | apply pw_below_drewN | apply below_drew1 | refine below_set ?_ GE108.out | refine below_set ?_ GE133.out) | exact HB.out)⟩⟩
                          · replace c74 := Bool.eq_false_iff.mpr c74
                            subst c74
                            have H1 : (secateurlaw04_WordBack.j5 k3 l0 x8_3 false) = some r := by rw [if_neg (show ¬ (false = true) by decide)] at H; exact H
                            clear H
                            have H := H1
                            clear H1
                            have H' := Aside0.mk H
                            clear H
                            go_wp2_with (first | ((with_reducible refine gate_callee (f := 46) rfl ?_); refine goesL_ (some 118) rfl rfl Tryd.func46 (by kernel_rfl) rfl #[.slice A0 l0.length c0] rfl (by (try simp only [List.map_toArray, List.map_cons, List.map_nil]); first | done | rfl | (simp only [List.length_drop, List.length_take]; rfl)) ?_; (with_reducible refine (secateurref04_Text.calls _ _ l0 t134 _ ?side1 ?side2 A69.out).mono ?_); (case side1 => exact Kd.C_below HR0.out (by repeat (first | (with_reducible first | exact HB.out | apply below_alloc | apply pw_below_drewN | apply below_drew1 | refine below_set ?_ GE108.out | refine below_set ?_ GE133.out) | exact HB.out))); (case side2 => exact HC0.out); rintro e w' ⟨rfl, ⟨nd, rfl⟩⟩; refine ⟨_, rfl, ?_⟩) | (go_at_call 45; (with_reducible refine (word_Line.calls _ _ l0 t135 _ ?side1 ?side2 A71.out).mono ?_); (case side1 => exact Kd.C_below HR0.out (by repeat (first | (with_reducible first | exact HB.out | apply below_alloc | apply pw_below_drewN | apply below_drew1 | refine below_set ?_ GE108.out | refine below_set ?_ GE133.out) | exact HB.out))); (case side2 => exact HC0.out); rintro e w84 ⟨rfl, hb⟩; have n0_ := Aside0.mk (Kd.R_below (by (with_reducible repeat (first | apply Kd.R_alloc | apply Kd.R_drewN | apply Kd.R_drew)); exact (Kd.R_mono (Kd.R_far (p := ⟨gb133, 1, none⟩) (Kd.R_far (p := ⟨gb133, 0, none⟩) (Kd.R_types HO130.out BK133.out (by decide)) (fun _ hk => hk.2) (.int .i64 t131)) (fun _ hk => hk.2) (.int .i64 t132)) (fun _ h_ => h_.1))) hb); have n1_ := Aside0.mk (blk_below (g := gb108) (o := .cells #[.int .i64 t106, .int .i64 t107] 31 (0, 0)) (by (with_reducible repeat (first | refine blk_drewN ?_ _ | refine blk_drew ?_ | refine blk_alloc ?_ _)); refine blk_far ?_ NB108_133.out _; (with_reducible repeat (first | refine blk_drewN ?_ _ | refine blk_drew ?_ | refine blk_alloc ?_ _)); refine blk_far ?_ NB108_133.out _; (with_reducible repeat (first | refine blk_drewN ?_ _ | refine blk_drew ?_ | refine blk_alloc ?_ _)); exact BK108.out) hb); have n2_ := Aside0.mk (blk_below (g := gb133) (o := .cells #[.int .i64 t131, .int .i64 t132] 31 (0, 0)) (by (with_reducible repeat (first | refine blk_drewN ?_ _ | refine blk_drew ?_ | refine blk_alloc ?_ _)); refine blk_put (cs := #[.int .i64 t131, .int .i64 0]) ?_ 1 _ rfl; (with_reducible repeat (first | refine blk_drewN ?_ _ | refine blk_drew ?_ | refine blk_alloc ?_ _)); refine blk_put (cs := #[.int .i64 0, .int .i64 0]) ?_ 0 _ rfl; (with_reducible repeat (first | refine blk_drewN ?_ _ | refine blk_drew ?_ | refine blk_alloc ?_ _)); exact BK133.out) hb); have n3_ := Aside0.mk (below_step (by repeat (first | (with_reducible first | exact HB.out | apply below_alloc | apply pw_below_drewN | apply below_drew1 | refine below_set ?_ GE108.out | refine below_set ?_ GE133.out) | exact HB.out)) hb); clear HO130; clear BK108; clear BK133; clear HB; have HO130 := n0_; have BK108 := n1_; have BK133 := n2_; have HB := n3_; clear n0_ n1_ n2_ n3_; (try clear hb); (try clear hb2); (try clear hk); (try clear hi)) | (go_at_call 47; (with_reducible refine (secateurref04_Line.calls _ _ l0 t136 _ ?side1 ?side2 A72.out).mono ?_); (case side1 => repeat (first | exact (Kd.C_below HR0.out HB.out) | (with_reducible refine Kd.C_alloc ?_ _) | (with_reducible refine Kd.C_drewN ?_ _) | (with_reducible refine Kd.C_drew ?_))); (case side2 => exact HC0.out); rintro e w' ⟨rfl, ⟨nd, rfl⟩⟩))
                            go_meet
                            case rel => exact ⟨_, (false), (by first | rfl | (simp; done) | (simp [*]; done)), H', ⟨by have := HJ2.out; have := HJ9.out; have := HK3.out; first | omega | exact Nat.le_refl _⟩, ⟨by (with_reducible repeat (first | refine blk_drewN ?_ _ | refine blk_drew ?_ | refine blk_alloc ?_ _)); exact BK108.out⟩, ⟨by (with_reducible repeat (first | refine blk_drewN ?_ _ | refine blk_drew ?_ | refine blk_alloc ?_ _)); exact BK133.out⟩, ⟨by repeat (first | (with_reducible first | exact HB.out | apply below_alloc | apply pw_below_drewN | apply below_drew1 | refine below_set ?_ GE108.out | refine below_set ?_ GE133.out) | exact HB.out)⟩⟩
                        · rw [if_neg c73] at H
                          have c73b0 : (t135.toList == t136.toList) = false := beq_eq_false_iff_ne.mpr c73
                          have c73b1 : (t135.toList != t136.toList) = true := bne_iff_ne.mpr c73
                          have H' := Aside0.mk H
                          clear H
                          go_wp2_with (first | ((with_reducible refine gate_callee (f := 46) rfl ?_); refine goesL_ (some 118) rfl rfl Tryd.func46 (by kernel_rfl) rfl #[.slice A0 l0.length c0] rfl (by (try simp only [List.map_toArray, List.map_cons, List.map_nil]); first | done | rfl | (simp only [List.length_drop, List.length_take]; rfl)) ?_; (with_reducible refine (secateurref04_Text.calls _ _ l0 t134 _ ?side1 ?side2 A69.out).mono ?_); (case side1 => exact Kd.C_below HR0.out (by repeat (first | (with_reducible first | exact HB.out | apply below_alloc | apply pw_below_drewN | apply below_drew1 | refine below_set ?_ GE108.out | refine below_set ?_ GE133.out) | exact HB.out))); (case side2 => exact HC0.out); rintro e w' ⟨rfl, ⟨nd, rfl⟩⟩; refine ⟨_, rfl, ?_⟩) | (go_at_call 45; (with_reducible refine (word_Line.calls _ _ l0 t135 _ ?side1 ?side2 A71.out).mono ?_); (case side1 => exact Kd.C_below HR0.out (by repeat (first | (with_reducible first | exact HB.out | apply below_alloc | apply pw_below_drewN | apply below_drew1 | refine below_set ?_ GE108.out | refine below_set ?_ GE133.out) | exact HB.out))); (case side2 => exact HC0.out); rintro e w85 ⟨rfl, hb⟩; have n0_ := Aside0.mk (Kd.R_below (by (with_reducible repeat (first | apply Kd.R_alloc | apply Kd.R_drewN | apply Kd.R_drew)); exact (Kd.R_mono (Kd.R_far (p := ⟨gb133, 1, none⟩) (Kd.R_far (p := ⟨gb133, 0, none⟩) (Kd.R_types HO130.out BK133.out (by decide)) (fun _ hk => hk.2) (.int .i64 t131)) (fun _ hk => hk.2) (.int .i64 t132)) (fun _ h_ => h_.1))) hb); have n1_ := Aside0.mk (blk_below (g := gb108) (o := .cells #[.int .i64 t106, .int .i64 t107] 31 (0, 0)) (by (with_reducible repeat (first | refine blk_drewN ?_ _ | refine blk_drew ?_ | refine blk_alloc ?_ _)); refine blk_far ?_ NB108_133.out _; (with_reducible repeat (first | refine blk_drewN ?_ _ | refine blk_drew ?_ | refine blk_alloc ?_ _)); refine blk_far ?_ NB108_133.out _; (with_reducible repeat (first | refine blk_drewN ?_ _ | refine blk_drew ?_ | refine blk_alloc ?_ _)); exact BK108.out) hb); have n2_ := Aside0.mk (blk_below (g := gb133) (o := .cells #[.int .i64 t131, .int .i64 t132] 31 (0, 0)) (by (with_reducible repeat (first | refine blk_drewN ?_ _ | refine blk_drew ?_ | refine blk_alloc ?_ _)); refine blk_put (cs := #[.int .i64 t131, .int .i64 0]) ?_ 1 _ rfl; (with_reducible repeat (first | refine blk_drewN ?_ _ | refine blk_drew ?_ | refine blk_alloc ?_ _)); refine blk_put (cs := #[.int .i64 0, .int .i64 0]) ?_ 0 _ rfl; (with_reducible repeat (first | refine blk_drewN ?_ _ | refine blk_drew ?_ | refine blk_alloc ?_ _)); exact BK133.out) hb); have n3_ := Aside0.mk (below_step (by repeat (first | (with_reducible first | exact HB.out | apply below_alloc | apply pw_below_drewN | apply below_drew1 | refine below_set ?_ GE108.out | refine below_set ?_ GE133.out) | exact HB.out)) hb); clear HO130; clear BK108; clear BK133; clear HB; have HO130 := n0_; have BK108 := n1_; have BK133 := n2_; have HB := n3_; clear n0_ n1_ n2_ n3_; (try clear hb); (try clear hb2); (try clear hk); (try clear hi)) | (go_at_call 47; (with_reducible refine (secateurref04_Line.calls _ _ l0 t136 _ ?side1 ?side2 A72.out).mono ?_); (case side1 => repeat (first | exact (Kd.C_below HR0.out HB.out) | (with_reducible refine Kd.C_alloc ?_ _) | (with_reducible refine Kd.C_drewN ?_ _) | (with_reducible refine Kd.C_drew ?_))); (case side2 => exact HC0.out); rintro e w' ⟨rfl, ⟨nd, rfl⟩⟩))
                          go_meet
                          case rel => exact ⟨_, (true), (by first | rfl | (simp; done) | (simp [*]; done)), H', ⟨by have := HJ2.out; have := HJ9.out; have := HK3.out; first | omega | exact Nat.le_refl _⟩, ⟨by (with_reducible repeat (first | refine blk_drewN ?_ _ | refine blk_drew ?_ | refine blk_alloc ?_ _)); exact BK108.out⟩, ⟨by (with_reducible repeat (first | refine blk_drewN ?_ _ | refine blk_drew ?_ | refine blk_alloc ?_ _)); exact BK133.out⟩, ⟨by repeat (first | (with_reducible first | exact HB.out | apply below_alloc | apply pw_below_drewN | apply below_drew1 | refine below_set ?_ GE108.out | refine below_set ?_ GE133.out) | exact HB.out)⟩⟩
                      · rw [if_neg c70] at H
                        have c70b0 : (t127.toList == t134.toList) = false := beq_eq_false_iff_ne.mpr c70
                        have c70b1 : (t127.toList != t134.toList) = true := bne_iff_ne.mpr c70
                        (first | rw [c70b0] | rw [c70b1] | (simp only [i64_w, i32_w]; rw [c70b0]) | skip)
                        have H' := Aside0.mk H
                        clear H
                        go_wp2_with (first | ((with_reducible refine gate_callee (f := 46) rfl ?_); refine goesL_ (some 118) rfl rfl Tryd.func46 (by kernel_rfl) rfl #[.slice A0 l0.length c0] rfl (by (try simp only [List.map_toArray, List.map_cons, List.map_nil]); first | done | rfl | (simp only [List.length_drop, List.length_take]; rfl)) ?_; (with_reducible refine (secateurref04_Text.calls _ _ l0 t134 _ ?side1 ?side2 A69.out).mono ?_); (case side1 => exact Kd.C_below HR0.out (by repeat (first | (with_reducible first | exact HB.out | apply below_alloc | apply pw_below_drewN | apply below_drew1 | refine below_set ?_ GE108.out | refine below_set ?_ GE133.out) | exact HB.out))); (case side2 => exact HC0.out); rintro e w' ⟨rfl, ⟨nd, rfl⟩⟩; refine ⟨_, rfl, ?_⟩))
                        go_meet
                        case rel => exact ⟨_, (true), (by first | rfl | (simp; done) | (simp [*]; done)), H', ⟨by have := HJ2.out; have := HJ9.out; have := HK3.out; first | omega | exact Nat.le_refl _⟩, ⟨by (with_reducible repeat (first | refine blk_drewN ?_ _ | refine blk_drew ?_ | refine blk_alloc ?_ _)); refine blk_far ?_ NB108_133.out _; (with_reducible repeat (first | refine blk_drewN ?_ _ | refine blk_drew ?_ | refine blk_alloc ?_ _)); refine blk_far ?_ NB108_133.out _; (with_reducible repeat (first | refine blk_drewN ?_ _ | refine blk_drew ?_ | refine blk_alloc ?_ _)); exact BK108.out⟩, ⟨by (with_reducible repeat (first | refine blk_drewN ?_ _ | refine blk_drew ?_ | refine blk_alloc ?_ _)); refine blk_put (cs := #[.int .i64 t131, .int .i64 0]) ?_ 1 _ rfl; (with_reducible repeat (first | refine blk_drewN ?_ _ | refine blk_drew ?_ | refine blk_alloc ?_ _)); refine blk_put (cs := #[.int .i64 0, .int .i64 0]) ?_ 0 _ rfl; (with_reducible repeat (first | refine blk_drewN ?_ _ | refine blk_drew ?_ | refine blk_alloc ?_ _)); exact BK133.out⟩, ⟨by repeat (first | (with_reducible first | exact HB.out | apply below_alloc | apply pw_below_drewN | apply below_drew1 | refine below_set ?_ GE108.out | refine below_set ?_ GE133.out) | exact HB.out)⟩⟩
                    case rest =>
                      clear HC63
                      try clear c1
                      try clear p1
                      try clear q1
                      try clear hx1
                      try clear p2
                      try clear c3
                      try clear c4
                      try clear c5
                      try clear p5
                      try clear q5
                      try clear hx5
                      try clear c6
                      try clear p6
                      try clear q6
                      try clear hx6
                      try clear c7
                      try clear c8
                      try clear c10
                      try clear p11
                      try clear q11
                      try clear hx11
                      try clear p12
                      try clear q12
                      try clear hx12
                      try clear c15
                      try clear c16
                      try clear c16b0
                      try clear c16b1
                      try clear c18
                      try clear c18b0
                      try clear c18b1
                      try clear c37
                      try clear c38
                      try clear c39
                      try clear c40
                      try clear c41
                      try clear c41b0
                      try clear c42
                      try clear c42b0
                      try clear c44
                      try clear c44b0
                      try clear c44b1
                      try clear c45
                      try clear c46
                      try clear c46b0
                      try clear c47
                      try clear c47b0
                      try clear c48
                      try clear c48b0
                      try clear c49
                      try clear c50
                      try clear c50b0
                      try clear p51
                      try clear q51
                      try clear hx51
                      try clear c52
                      try clear c52b0
                      try clear p53
                      try clear q53
                      try clear hx53
                      try clear c54
                      try clear p55
                      try clear q55
                      try clear hx55
                      try clear c56
                      try clear p57
                      try clear q57
                      try clear hx57
                      try clear c58
                      try clear c59
                      try clear c59b0
                      try clear p60
                      try clear q60
                      try clear hx60
                      try clear p64
                      try clear c67
                      try clear c70
                      try clear c70b0
                      try clear c70b1
                      try clear c73
                      try clear c73b0
                      try clear c73b1
                      try clear c74
                      try clear c75
                      try clear c75b0
                      try clear c75b1
                      try clear c78
                      try clear c82
                      try clear hcz13_0
                      try clear hcz13_1
                      try clear hcz22_0
                      try clear hcz22_1
                      try clear hcz29_0
                      try clear hcz29_1
                      try clear hcz35_0
                      try clear hcz35_1
                      try clear hcz68_0
                      try clear hcz68_1
                      try clear hcz79_0
                      try clear hcz79_1
                      try clear hcz83_0
                      try clear hcz83_1
                      try clear hfz13_0
                      try clear hfz13_1
                      try clear hfz22_0
                      try clear hfz22_1
                      try clear hfz29_0
                      try clear hfz29_1
                      try clear hfz35_0
                      try clear hfz35_1
                      try clear hfz68_0
                      try clear hfz68_1
                      try clear hfz79_0
                      try clear hfz79_1
                      try clear hfz83_0
                      try clear hfz83_1
                      try clear hx119_0
                      try clear hx120_0
                      try clear hx121_0
                      try clear hx122_0
                      try clear hx123_0
                      try clear hx124_0
                      try clear hx125_0
                      try clear hx126_0
                      try clear p1
                      try clear p11
                      try clear p119
                      try clear p12
                      try clear p120
                      try clear p121
                      try clear p122
                      try clear p123
                      try clear p124
                      try clear p125
                      try clear p126
                      try clear p2
                      try clear p51
                      try clear p53
                      try clear p55
                      try clear p57
                      try clear p6
                      try clear p60
                      try clear q1
                      try clear q11
                      try clear q119
                      try clear q12
                      try clear q120
                      try clear q121
                      try clear q122
                      try clear q123
                      try clear q124
                      try clear q125
                      try clear q126
                      try clear q51
                      try clear q53
                      try clear q55
                      try clear q57
                      try clear q60
                      obtain ⟨kq, x140_62, rfl, HA, HJ62, BK108, BK133, HB⟩ := hcut
                      cases kq with
                      | zero => exact absurd HA.out (by simp [secateurlaw04_WordBack.j5])
                      | succ kj62 =>
                        have H := HA.out
                        clear HA
                        simp only [secateurlaw04_WordBack.j5] at H
                        by_cases c86 : x140_62 = true
                        · subst c86
                          have H1 : (some false) = some r := by rw [if_pos rfl] at H; exact H
                          clear H
                          have H := H1
                          clear H1
                          obtain rfl := Option.some.inj H
                          go_wp2
                          go_ret
                          exact ⟨by first | rfl | (simp [errW_none, errW_some] <;> rfl) | (simp [*, errW_none, errW_some] <;> rfl), by repeat (first | (with_reducible first | exact HB.out | apply below_alloc | apply pw_below_drewN | apply below_drew1 | refine below_set ?_ GE108.out | refine below_set ?_ GE133.out) | exact HB.out)⟩
                        · replace c86 := Bool.eq_false_iff.mpr c86
                          subst c86
                          have H1 : (if x8_3 = true then (some true) else (if (l0.length : Int) = 0 then (some true) else ((word_Line.f l0).bind fun t138 => ((word_Fields.f t138).bind fun t139 => ((secateurref01_SameTexts.f t139 l0).bind fun t142 => (some t142)))))) = some r := by rw [if_neg (show ¬ (false = true) by decide)] at H; exact H
                          clear H
                          have H := H1
                          clear H1
                          by_cases c87 : x8_3 = true
                          · subst c87
                            have H1 : (some true) = some r := by rw [if_pos rfl] at H; exact H
                            clear H
                            have H := H1
                            clear H1
                            obtain rfl := Option.some.inj H
                            go_wp2
                            go_ret
                            exact ⟨by first | rfl | (simp [errW_none, errW_some] <;> rfl) | (simp [*, errW_none, errW_some] <;> rfl), by repeat (first | (with_reducible first | exact HB.out | apply below_alloc | apply pw_below_drewN | apply below_drew1 | refine below_set ?_ GE108.out | refine below_set ?_ GE133.out) | exact HB.out)⟩
                          · replace c87 := Bool.eq_false_iff.mpr c87
                            subst c87
                            have H1 : (if (l0.length : Int) = 0 then (some true) else ((word_Line.f l0).bind fun t138 => ((word_Fields.f t138).bind fun t139 => ((secateurref01_SameTexts.f t139 l0).bind fun t142 => (some t142))))) = some r := by rw [if_neg (show ¬ (false = true) by decide)] at H; exact H
                            clear H
                            have H := H1
                            clear H1
                            by_cases c88 : (l0.length : Int) = 0
                            · rw [if_pos c88] at H
                              have c88b0 : ((l0.length : Int) == 0) = true := beq_iff_eq.mpr c88
                              have c88b1 : ((l0.length : Int) != 0) = false := bne_eq_false_iff_eq.mpr c88
                              clear c88
                              obtain rfl := Option.some.inj H
                              go_wp2
                              go_ret
                              exact ⟨by first | rfl | (simp [errW_none, errW_some] <;> rfl) | (simp [*, errW_none, errW_some] <;> rfl), by repeat (first | (with_reducible first | exact HB.out | apply below_alloc | apply pw_below_drewN | apply below_drew1 | refine below_set ?_ GE108.out | refine below_set ?_ GE133.out) | exact HB.out)⟩
                            · rw [if_neg c88] at H
                              have c88b0 : ((l0.length : Int) == 0) = false := beq_eq_false_iff_ne.mpr c88
                              have c88b1 : ((l0.length : Int) != 0) = true := bne_iff_ne.mpr c88
                              have c88b2 : ¬ (l0 = []) := fun h_ => c88 (by rw [h_]; rfl)
                              replace H := Option.bind_eq_some_iff.mp H
                              obtain ⟨t138, A890, H⟩ := H
                              replace H : ((word_Fields.f t138).bind fun t139 => ((secateurref01_SameTexts.f t139 l0).bind fun t142 => (some t142))) = some r := H
                              have A89 := Aside0.mk A890
                              clear A890
                              replace H := Option.bind_eq_some_iff.mp H
                              obtain ⟨t139, A900, H⟩ := H
                              replace H : ((secateurref01_SameTexts.f t139 l0).bind fun t142 => (some t142)) = some r := H
                              have A90 := Aside0.mk A900
                              clear A900
                              replace H := Option.bind_eq_some_iff.mp H
                              obtain ⟨t142, A910, H⟩ := H
                              replace H : (some t142) = some r := H
                              have A91 := Aside0.mk A910
                              clear A910
                              obtain rfl := Option.some.inj H
                              go_wp2_with (first | (go_at_call 45; (with_reducible refine (word_Line.calls _ _ l0 t138 _ ?side1 ?side2 A89.out).mono ?_); (case side1 => repeat (first | exact (Kd.C_below HR0.out HB.out) | (with_reducible refine Kd.C_alloc ?_ _) | (with_reducible refine Kd.C_drewN ?_ _) | (with_reducible refine Kd.C_drew ?_))); (case side2 => exact HC0.out); rintro e w92 ⟨rfl, hb⟩; have n0_ := Aside0.mk (blk_below (g := gb108) (o := .cells #[.int .i64 t106, .int .i64 t107] 31 (0, 0)) (by (with_reducible repeat (first | refine blk_drewN ?_ _ | refine blk_drew ?_ | refine blk_alloc ?_ _)); exact BK108.out) hb); have n1_ := Aside0.mk (blk_below (g := gb133) (o := .cells #[.int .i64 t131, .int .i64 t132] 31 (0, 0)) (by (with_reducible repeat (first | refine blk_drewN ?_ _ | refine blk_drew ?_ | refine blk_alloc ?_ _)); exact BK133.out) hb); have n2_ := Aside0.mk (below_step (by repeat (first | (with_reducible first | exact HB.out | apply below_alloc | apply pw_below_drewN | apply below_drew1 | refine below_set ?_ GE108.out | refine below_set ?_ GE133.out) | exact HB.out)) hb); clear BK108; clear BK133; clear HB; have BK108 := n0_; have BK133 := n1_; have HB := n2_; clear n0_ n1_ n2_; (try clear hb); (try clear hb2); (try clear hk); (try clear hi)) | (go_at_call 43; (with_reducible refine (word_Fields.calls t138 t139 _ ?side1 A90.out).mono ?_); (case side1 => exact MaxL.below HGMaxL.out (by repeat (first | (with_reducible first | exact HB.out | apply below_alloc | apply pw_below_drewN | apply below_drew1 | refine below_set ?_ GE108.out | refine below_set ?_ GE133.out) | exact HB.out))); rintro e w93 ⟨v140, rfl, ho0, hb⟩; have n0_ := Aside0.mk (Kd.R_lower ho0 (below_size (by repeat (first | (with_reducible first | exact HB.out | apply below_alloc | apply pw_below_drewN | apply below_drew1 | refine below_set ?_ GE108.out | refine below_set ?_ GE133.out) | exact HB.out)))); have n1_ := Aside0.mk (blk_below (g := gb108) (o := .cells #[.int .i64 t106, .int .i64 t107] 31 (0, 0)) (by (with_reducible repeat (first | refine blk_drewN ?_ _ | refine blk_drew ?_ | refine blk_alloc ?_ _)); exact BK108.out) hb); have n2_ := Aside0.mk (blk_below (g := gb133) (o := .cells #[.int .i64 t131, .int .i64 t132] 31 (0, 0)) (by (with_reducible repeat (first | refine blk_drewN ?_ _ | refine blk_drew ?_ | refine blk_alloc ?_ _)); exact BK133.out) hb); have n3_ := Aside0.mk (below_step (by repeat (first | (with_reducible first | exact HB.out | apply below_alloc | apply pw_below_drewN | apply below_drew1 | refine below_set ?_ GE108.out | refine below_set ?_ GE133.out) | exact HB.out)) hb); clear BK108; clear BK133; clear HB; have HO141 := n0_; have BK108 := n1_; have BK133 := n2_; have HB := n3_; clear n0_ n1_ n2_ n3_; (try clear hb); (try clear hb2); (try clear hk); (try clear hi); (try clear ho0); obtain ⟨Ao94, co94, eo94⟩ := Kd.R_slice HO141.out; subst eo94) | (go_at_call 42; (with_reducible refine (secateurref01_SameTexts.calls _ _ t139 _ _ l0 t142 _ ?side1 ?side2 ?side3 ?side4 A91.out).mono ?_); (case side1 => repeat (first | exact (Kd.R_reads' HO141.out).2.2 | (with_reducible refine Kd.C_alloc ?_ _) | (with_reducible refine Kd.C_drewN ?_ _) | (with_reducible refine Kd.C_drew ?_))); (case side2 => exact (Kd.R_reads' HO141.out).2.1); (case side3 => repeat (first | exact (Kd.C_below HR0.out HB.out) | (with_reducible refine Kd.C_alloc ?_ _) | (with_reducible refine Kd.C_drewN ?_ _) | (with_reducible refine Kd.C_drew ?_))); (case side4 => exact HC0.out); rintro e w' ⟨rfl, ⟨nd, rfl⟩⟩))
                              go_ret
                              exact ⟨by first | rfl | (simp [errW_none, errW_some] <;> rfl) | (simp [*, errW_none, errW_some] <;> rfl), by repeat (first | (with_reducible first | exact HB.out | apply below_alloc | apply pw_below_drewN | apply below_drew1 | refine below_set ?_ GE108.out | refine below_set ?_ GE133.out) | exact HB.out)⟩

end Go.Proofs.YtmlbfepibfobaaaDoor.PWordBack
end

section
-- Written by this session's program layer.py (the kit's print, turned), not by hand.
namespace Go.Proofs.YtmlbfepibfobaaaDoor.PWordBack
open Go.RowKit Go.Proofs.YtmlbfepibfobaaaDoorW.PrintWords Go.Proofs.YtmlbfepibfobaaaDoorW.PrintLast Go.Proofs.YtmlbfepibfobaaaDoorW.PrintMore Go.Proofs.YtmlbfepibfobaaaDoor.Hand
attribute [local go_sem] max2_int min2_int max_two min_two max_three min_three max_four min_four   -- for this text's walks alone
set_option linter.unusedVariables false
set_option linter.unusedSimpArgs false

end Go.Proofs.YtmlbfepibfobaaaDoor.PWordBack
end

section
namespace Go.Proofs.YtmlbfepibfobaaaDoor.Pure
open Go.RowKit Go.Proofs.YtmlbfepibfobaaaDoor.PWordBack Go.Proofs.YtmlbfepibfobaaaDoor.Hand Go.Proofs.YtmlbfepibfobaaaDoorW.PrintWords Go.Proofs.YtmlbfepibfobaaaDoorW.PrintLast
set_option linter.unusedVariables false

abbrev fitsB (l : List ByteArray) : Bool := l.all fun x => (bl x).all Hand.seen
abbrev blankB (l : List ByteArray) : Bool := l.any fun x => Hand.blank (bl x)
def total (l : List ByteArray) : Nat := (l.map ByteArray.size).sum
theorem total_text : ∀ l : List ByteArray, (textL (l.map bl)).length = total l + l.length
  | [] => rfl
  | x :: l => by
    have ih := total_text l
    unfold total at ih ⊢
    rw [List.map_cons, textL_cons, List.length_append, List.length_cons, ih, bl_len, List.map_cons, List.sum_cons, List.length_cons]
    omega
theorem total_line : ∀ l : List ByteArray, (lineL (l.map bl)).length ≤ total l + l.length
  | [] => Nat.zero_le _
  | [x] => by unfold total; simp [lineL, bl_len]
  | x :: y :: l => by
    have ih := total_line (y :: l)
    unfold total at ih ⊢
    rw [List.map_cons, List.map_cons, lineL_cons _ _ (by simp), List.length_append, List.length_cons, bl_len]
    simp only [List.map_cons, List.sum_cons, List.length_cons] at ih ⊢
    omega
theorem map_lb_bl (l : List ByteArray) : (l.map bl).map lb = l := by
  rw [List.map_map, show l.map (lb ∘ bl) = l.map id from List.map_congr_left fun x _ => lb_bl x, List.map_id]
theorem j5_true (l : List ByteArray) (b : Bool) (k : Nat) (hl : l.length ≤ 100) (ht : total l ≤ 20000) (hb : b = blankB l) : secateurlaw04_WordBack.j5 (k + 1) l b false = some true := by
  rw [secateurlaw04_WordBack.j5, if_neg (by decide)]
  cases b with
  | true => rfl
  | false =>
    rw [if_neg (by decide)]
    by_cases h0 : l.length = 0
    · rw [if_pos (by omega)]
    · have hline := total_line l
      have h1 : word_Line.f l = some (lb (lineL (l.map bl))) := by unfold word_Line.f; rw [if_pos ⟨by omega, by omega⟩]
      have hnb : ∀ x ∈ l.map bl, Hand.blank x = false := by
        intro x hx
        obtain ⟨y, hy, rfl⟩ := List.mem_map.1 hx
        have := (List.any_eq_false.1 hb.symm) y hy
        simpa using this
      have hne : l.map bl ≠ [] := by intro e; apply h0; rw [← List.length_map bl, e]; rfl
      have h2 : word_Fields.f (lb (lineL (l.map bl))) = some l := by
        unfold word_Fields.f
        rw [if_pos (by rw [lb_size]; omega), bl_lb, fields_line _ hne hnb, map_lb_bl]
      rw [if_neg (by omega), h1, Option.bind_some, h2, Option.bind_some]
      unfold secateurref01_SameTexts.f
      simp
theorem last_true (l : List ByteArray) (f b : Bool) (n : Int) (k : Nat) (hl : l.length ≤ 100) (ht : total l ≤ 20000) (hf : f = fitsB l) (hb : b = blankB l) (hk : 2 ≤ k) : secateurlaw04_WordBack.l0 k l f b n (l.length : Int) = some true := by
  obtain ⟨k, rfl⟩ : ∃ j, k = j + 2 := ⟨k - 2, by omega⟩
  have htext := total_text l
  have hline := total_line l
  have h1 : word_Text.f l = some (lb (textL (l.map bl))) := by unfold word_Text.f; rw [if_pos (by omega)]
  have h2 : secateurref04_Text.f l = some (lb (textL (l.map bl))) := by unfold secateurref04_Text.f; rw [if_pos (by omega), h1]
  have h3 : word_Line.f l = some (lb (lineL (l.map bl))) := by unfold word_Line.f; rw [if_pos ⟨by omega, by omega⟩]
  have h4 : secateurref04_Line.f l = some (lb (lineL (l.map bl))) := h3
  have h5 : word_Lines.f (lb (textL (l.map bl))) = some ((linesL (textL (l.map bl))).1.map lb, (linesL (textL (l.map bl))).2) := by
    unfold word_Lines.f
    rw [if_pos (by rw [lb_size]; omega), bl_lb]
  rw [secateurlaw04_WordBack.l0, if_neg (by omega), h1, Option.bind_some, h5, Option.bind_some, h2, Option.bind_some, if_pos rfl, h3, Option.bind_some, h4, Option.bind_some, if_pos rfl]
  cases f with
  | false => rw [if_neg (by decide)]; exact j5_true l b k hl ht hb
  | true =>
    have hseen : ∀ x ∈ l.map bl, x.all Hand.seen = true := by
      intro x hx
      obtain ⟨y, hy, rfl⟩ := List.mem_map.1 hx
      exact List.all_eq_true.1 hf.symm y hy
    have hlines := lines_text (l.map bl) hseen (by omega)
    rw [if_pos rfl, hlines]
    simp only [if_true]
    unfold secateurref01_SameTexts.f
    rw [Option.bind_some, map_lb_bl]
    have := j5_true l b k hl ht hb
    simpa using this
theorem take_all (x : ByteArray) (j : Nat) (h : j < x.size) (b : UInt8) (hb : (bl x)[j]? = some b) : ((bl x).take (j + 1)).all Hand.seen = (((bl x).take j).all Hand.seen && Hand.seen b) ∧ Hand.blank ((bl x).take (j + 1)) = (Hand.blank ((bl x).take j) || b == 32) := by
  have e : (bl x).take (j + 1) = (bl x).take j ++ [b] := by rw [List.take_add_one, hb]; rfl
  rw [e]
  unfold Hand.blank
  simp [List.all_append, List.any_append]
theorem in_loop (l : List ByteArray) (i : Nat) (hi : i < l.length) (hx : l[i].size ≤ 1000) (f0 b0 : Bool) (n : Int) (r : Option Bool) : ∀ (d k j : Nat), l[i].size - j = d → j ≤ l[i].size → d < k →
    (secateurlaw04_WordBack.l0 (k - d - 1) l (f0 && (bl l[i]).all Hand.seen) (b0 || Hand.blank (bl l[i])) n (wrap64 ((i : Int) + 1)) = r) →
    secateurlaw04_WordBack.l1 k l (f0 && ((bl l[i]).take j).all Hand.seen) (b0 || Hand.blank ((bl l[i]).take j)) n i j = r := by
  intro d
  induction d with
  | zero =>
    intro k j hd hj hk hr
    obtain ⟨k, rfl⟩ : ∃ m, k = m + 1 := ⟨k - 1, by omega⟩
    have hj2 : j = l[i].size := by omega
    rw [List.take_of_length_le (by rw [bl_len]; omega)]
    rw [secateurlaw04_WordBack.l1, if_pos (by omega), if_pos (by omega), rd_str l i hi, if_neg (by omega)]
    exact hr
  | succ d ih =>
    intro k j hd hj hk hr
    obtain ⟨k, rfl⟩ : ∃ m, k = m + 1 := ⟨k - 1, by omega⟩
    have hlt : j < l[i].size := by omega
    obtain ⟨b, hb1, hb2, _⟩ := bt_bl l[i] j hlt
    obtain ⟨t1, t2⟩ := take_all l[i] j hlt b hb1
    have HS := Aside0.mk (seen_bt hb2)
    have h32 : (bt l[i] j == 32) = (b == 32) := by
      rw [Bool.eq_iff_iff, beq_iff_eq, beq_iff_eq]
      exact u8_is32 hb2
    have HW : Aside0 (wrap64 ((j : Int) + 1) = ((j + 1 : Nat) : Int)) := ⟨by rw [wrap_in (by omega) (by omega)]; rfl⟩
    have hk2 : k + 1 - (d + 1) - 1 = k - d - 1 := by omega
    rw [hk2] at hr
    have IH := Aside0.mk (ih k (j + 1) (by omega) (by omega) (by omega) hr)
    rw [t1, t2] at IH
    clear ih hr hk2 t1 t2
    rw [secateurlaw04_WordBack.l1, if_pos (by omega), if_pos (by omega), rd_str l i hi, if_pos (by omega), h32, HW.out]
    generalize ((bl l[i]).take j).all Hand.seen = p at IH ⊢
    generalize Hand.blank ((bl l[i]).take j) = q at IH ⊢
    have hs2 := HS.out
    by_cases c1 : bt l[i] j ≥ 32
    · have c1' : ¬ bt l[i] j < 32 := by omega
      rw [decide_eq_false c1'] at hs2
      have hs3 : Hand.seen b = decide (bt l[i] j ≤ 126) := by
        rw [hs2]
        by_cases c2 : bt l[i] j ≤ 126
        · rw [decide_eq_true c2, decide_eq_false (show ¬ bt l[i] j > 126 by omega)]; rfl
        · rw [decide_eq_false c2, decide_eq_true (show bt l[i] j > 126 by omega)]; rfl
      rw [hs3] at IH
      have h := IH.out
      clear IH HS hs2 hs3
      have c0 : (0 : Int) ≤ (j : Int) := by omega
      rw [if_pos c1, if_pos c0]
      cases f0 <;> cases p <;> cases b0 <;> cases q <;> simpa [c0] using h
    · have c1' : bt l[i] j < 32 := by omega
      rw [decide_eq_true c1'] at hs2
      have hs3 : Hand.seen b = false := by rw [hs2]; rfl
      rw [hs3] at IH
      have h := IH.out
      clear IH HS hs2 hs3
      have c0 : (0 : Int) ≤ (j : Int) := by omega
      rw [if_neg c1, if_pos c0]
      cases f0 <;> cases p <;> cases b0 <;> cases q <;> simpa [c0] using h
theorem total_take (l : List ByteArray) (i : Nat) (hi : i < l.length) : total (l.take (i + 1)) = total (l.take i) + l[i].size := by
  unfold total
  rw [List.take_succ_eq_append_getElem hi, List.map_append, List.sum_append]
  simp
theorem out_loop (l : List ByteArray) (hl : l.length ≤ 100) : ∀ (d k i : Nat), l.length - i = d → i ≤ l.length → total (l.take i) ≤ 20000 → 1003 * d + 2 ≤ k →
    secateurlaw04_WordBack.l0 k l (fitsB (l.take i)) (blankB (l.take i)) (total (l.take i)) i = some true := by
  intro d
  induction d with
  | zero =>
    intro k i hd hi ht hk
    have hil : i = l.length := by omega
    subst hil
    rw [List.take_of_length_le (Nat.le_refl _)] at ht ⊢
    exact last_true l _ _ _ k hl ht rfl rfl (by omega)
  | succ d ih =>
    intro k i hd hi ht hk
    obtain ⟨k, rfl⟩ : ∃ m, k = m + 2 := ⟨k - 2, by omega⟩
    have hlt : i < l.length := by omega
    have htt := total_take l i hlt
    have HW : Aside0 (wrap64 ((i : Int) + 1) = ((i + 1 : Nat) : Int)) := ⟨by rw [wrap_in (by omega) (by omega)]; rfl⟩
    rw [secateurlaw04_WordBack.l0, if_pos (by omega), if_pos (by omega), rd_str l i hlt]
    by_cases h1 : (l[i].size : Int) > 1000
    · rw [if_pos h1, secateurlaw04_WordBack.j3, if_pos rfl]
    · have HN : Aside0 (wrap64 ((total (l.take i) : Int) + (l[i].size : Int)) = ((total (l.take (i + 1)) : Nat) : Int)) := ⟨by rw [htt, wrap_in (by omega) (by omega)]; rfl⟩
      rw [if_neg h1, HN.out]
      by_cases h2 : total (l.take (i + 1)) > 20000
      · rw [decide_eq_true (show ((total (l.take (i + 1)) : Nat) : Int) > 20000 by omega), secateurlaw04_WordBack.j3, if_pos rfl]
      · have ih := ih (k - l[i].size - 1) (i + 1) (by omega) (by omega) (by omega) (by omega)
        rw [decide_eq_false (show ¬ ((total (l.take (i + 1)) : Nat) : Int) > 20000 by omega), secateurlaw04_WordBack.j3, if_neg (by decide)]
        have := in_loop l i hlt (by omega) (fitsB (l.take i)) (blankB (l.take i)) ((total (l.take (i + 1)) : Nat) : Int) (some true) l[i].size k 0 rfl (Nat.zero_le _) (by omega) (by
          rw [HW.out, ← ih]
          have ef : fitsB (l.take (i + 1)) = (fitsB (l.take i) && (bl l[i]).all Hand.seen) := by
            unfold fitsB
            rw [List.take_succ_eq_append_getElem hlt, List.all_append, List.all_cons, List.all_nil, Bool.and_true]
          have eb : blankB (l.take (i + 1)) = (blankB (l.take i) || Hand.blank (bl l[i])) := by
            unfold blankB
            rw [List.take_succ_eq_append_getElem hlt, List.any_append, List.any_cons, List.any_nil, Bool.or_false]
          rw [ef, eb])
        simpa [Hand.blank] using this
theorem WordBack (l : List ByteArray) (s : ByteArray) (hl : l.length ≤ 9223372036854775807) (hs : s.size ≤ 140737488351232) : ∃ k, secateurlaw04_WordBack.f k l s = some true := by
  refine ⟨200000, ?_⟩
  have h7 : secateurlaw04_live.f = some true := rfl
  unfold secateurlaw04_WordBack.f secateurlaw04_great.f
  rw [Option.bind_some]
  obtain ⟨K, hK⟩ : ∃ K, K = 199998 := ⟨_, rfl⟩
  have e : 200000 = K + 2 := by omega
  rw [e]
  by_cases hb : (s.size : Int) > 65544
  · rw [if_pos (decide_eq_true hb), secateurlaw04_WordBack.j0, if_pos rfl, h7]; rfl
  · rw [if_neg (by rw [decide_eq_false hb]; decide)]
    by_cases hn : (l.length : Int) > 100
    · rw [decide_eq_true hn, secateurlaw04_WordBack.j0, if_pos rfl, h7]; rfl
    · have h1 : word_Lines.f s = some ((linesL (bl s)).1.map lb, (linesL (bl s)).2) := by unfold word_Lines.f; rw [if_pos (by omega)]
      have h3 : word_Fields.f s = some ((fieldsL (bl s)).map lb) := by unfold word_Fields.f; rw [if_pos (by omega)]
      have hmm : ((fieldsL (bl s)).map lb).map bl = fieldsL (bl s) := by
        rw [List.map_map, show (fieldsL (bl s)).map (bl ∘ lb) = (fieldsL (bl s)).map id from List.map_congr_left fun x _ => bl_lb x, List.map_id]
      have hfl := fld_len (bl s) []
      have hsl := bl_len s
      have hll := line_fields (bl s)
      have h4 : word_Line.f ((fieldsL (bl s)).map lb) = some s := by
        unfold word_Line.f
        rw [hmm, hll, if_pos ⟨by omega, by rw [List.length_map]; unfold fieldsL; omega⟩, lb_bl]
      have hfin : secateurlaw04_WordBack.j1 (K + 1) l false = some true := by
        rw [secateurlaw04_WordBack.j1, if_neg (by decide)]
        have := out_loop l (by omega) l.length K 0 rfl (Nat.zero_le _) (Nat.zero_le _) (by omega)
        exact this
      have hne : (s.toList != s.toList) = false := by simp
      rw [decide_eq_false hn, secateurlaw04_WordBack.j0, if_neg (by decide), h1, Option.bind_some, h7, Option.bind_some, if_pos rfl, h3, Option.bind_some, h4, Option.bind_some, hne, hfin]
      by_cases h0 : (linesL (bl s)).2.1 = 0
      · have hback := lines_back (bl s) (linesL (bl s)).1 (linesL (bl s)).2.2 (by rw [← h0])
        have hmm2 : ((linesL (bl s)).1.map lb).map bl = (linesL (bl s)).1 := by
          rw [List.map_map, show (linesL (bl s)).1.map (bl ∘ lb) = (linesL (bl s)).1.map id from List.map_congr_left fun x _ => bl_lb x, List.map_id]
        have h5 : word_Text.f ((linesL (bl s)).1.map lb) = some s := by
          unfold word_Text.f
          rw [hmm2, hback.1, if_pos (by omega), lb_bl]
        rw [if_pos h0, h5, Option.bind_some, if_pos rfl]
      · rw [if_neg h0]
end Go.Proofs.YtmlbfepibfobaaaDoor.Pure
end

section
/- Openings of arguments that are slices of strings. -/
namespace Go.Proofs.YtmlbfepibfobaaaDoor.Hand
open Go.ChangeShapes Go.WideShapes Go.ChangeAt Go.RowKit Go.Proofs.YtmlbfepibfobaaaDoorW.PrintWords Go.Proofs.YtmlbfepibfobaaaDoorW.PrintLast Go.Proofs.YtmlbfepibfobaaaDoorW.PrintMore
section
variable {H : Type} {enc : TypeId × Value → H} {P : Program} {w : World} {base : Nat} {spare : Nat → Bool} {held : Bool}
theorem open_strRow {r : Reach} {b0 : Nat} {t e : TypeId} {v : Value} {d : DataW H} {ps : List MemPlace} (ht : P.underlying t = some (.slice e)) (he : P.underlying e = some .string) (hc : P.cellsOf e = 1)
    (hval : Value.okWide P w r b0 t v) (hd : DataW.Trod enc P w base spare held t v d ps) :
    ∃ (A : Option Addr) (cap : Nat) (l : List ByteArray), v = .slice A l.length cap ∧ l.length ≤ cap ∧ Kd.C Kd.string w A l.length l ∧ l.length ≤ 9223372036854775807 := by
  obtain ⟨a, len, cap, rfl⟩ := okWide_slice ht hval
  obtain ⟨fuel, hf⟩ := hd
  rcases open_strings ht he hc hf with ⟨hcs, _⟩ | ⟨x, l, c, ss, hcs, _, hl, hm, hz, _, hcell, _⟩
  · simp [Value.cells] at hcs
    obtain ⟨rfl, rfl, rfl⟩ := hcs
    exact ⟨none, 0, [], rfl, Nat.le_refl _, Kd.C_nil _ _, by decide⟩
  · simp [Value.cells] at hcs
    obtain ⟨rfl, rfl, rfl⟩ := hcs
    have hls : len ≤ ss.length := by rw [hz]; split <;> omega
    have hlen : (ss.take len).length = len := by rw [List.length_take]; omega
    have hmx : len ≤ 9223372036854775807 := by unfold maxLen at hm; omega
    refine ⟨some x, cap, ss.take len, by rw [hlen], by rw [hlen]; exact hl, ?_, by rw [hlen]; exact hmx⟩
    rw [hlen]
    refine Kd.C_of_reads (d := ByteArray.empty) (h1 := fun _ => rfl) ⟨hlen, hmx, fun _ => ⟨x, rfl, fun j hj => ?_⟩⟩
    rw [hcell j (by omega)]
    congr 2
    simp [List.getD, hj]
end
end Go.Proofs.YtmlbfepibfobaaaDoor.Hand
end
