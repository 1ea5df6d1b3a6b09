import Derived.Test.YtfplcohjnlbfjaaMgTopNearest1
section
namespace Go.Proofs.Ytfplcohjnlbfjaa.PTopNearest
open Go.RowKit Go.Proofs.YtfplcohjnlbfjaaW.PrintWords Go.Proofs.YtfplcohjnlbfjaaW.PrintLast Go.Proofs.YtfplcohjnlbfjaaW.PrintMore Go.Proofs.Ytfplcohjnlbfjaa.Hand
attribute [local go_sem] max2_int min2_int max_two min_two max_three min_three max_four min_four   -- for this text's walks alone
set_option linter.unusedVariables false
set_option linter.unusedSimpArgs false
mutual
def secateurlaw08_Great.j0 : Nat → Bool → List (S33) → List ByteArray → ByteArray → ByteArray → ByteArray → Option (Bool)
  | 0, _, _, _, _, _, _ => none
  | k + 1, x17, x102000, x102001, x102002, x102003, x102004 => if x17 = true then (some true) else (secateurlaw08_Great.l0 k 0 x102000 x102001 x102002 x102003 x102004)
def secateurlaw08_Great.l0 : Nat → Int → List (S33) → List ByteArray → ByteArray → ByteArray → ByteArray → Option (Bool)
  | 0, _, _, _, _, _, _ => none
  | k + 1, x3, x102000, x102001, x102002, x102003, x102004 => if x3 < (x102000.length : Int) then (if 0 ≤ x3 then (if (((rd_T33 x102000 x3).f4).length : Int) > 40 then (secateurlaw08_Great.j2 k x3 true x102000 x102001 x102002 x102003 x102004 ((rd_T33 x102000 x3).f0) ((rd_T33 x102000 x3).f1) ((rd_T33 x102000 x3).f2) ((rd_T33 x102000 x3).f3) ((rd_T33 x102000 x3).f4) ((rd_T33 x102000 x3).f5) ((rd_T33 x102000 x3).f6)) else (if (((rd_T33 x102000 x3).f5).length : Int) > 40 then (secateurlaw08_Great.j2 k x3 true x102000 x102001 x102002 x102003 x102004 ((rd_T33 x102000 x3).f0) ((rd_T33 x102000 x3).f1) ((rd_T33 x102000 x3).f2) ((rd_T33 x102000 x3).f3) ((rd_T33 x102000 x3).f4) ((rd_T33 x102000 x3).f5) ((rd_T33 x102000 x3).f6)) else (if (((rd_T33 x102000 x3).f6).length : Int) > 40 then (secateurlaw08_Great.j2 k x3 true x102000 x102001 x102002 x102003 x102004 ((rd_T33 x102000 x3).f0) ((rd_T33 x102000 x3).f1) ((rd_T33 x102000 x3).f2) ((rd_T33 x102000 x3).f3) ((rd_T33 x102000 x3).f4) ((rd_T33 x102000 x3).f5) ((rd_T33 x102000 x3).f6)) else (if (((rd_T33 x102000 x3).f0).size : Int) > 300 then (secateurlaw08_Great.j2 k x3 true x102000 x102001 x102002 x102003 x102004 ((rd_T33 x102000 x3).f0) ((rd_T33 x102000 x3).f1) ((rd_T33 x102000 x3).f2) ((rd_T33 x102000 x3).f3) ((rd_T33 x102000 x3).f4) ((rd_T33 x102000 x3).f5) ((rd_T33 x102000 x3).f6)) else (secateurlaw08_Great.j2 k x3 (decide ((((rd_T33 x102000 x3).f1).size : Int) > 300)) x102000 x102001 x102002 x102003 x102004 ((rd_T33 x102000 x3).f0) ((rd_T33 x102000 x3).f1) ((rd_T33 x102000 x3).f2) ((rd_T33 x102000 x3).f3) ((rd_T33 x102000 x3).f4) ((rd_T33 x102000 x3).f5) ((rd_T33 x102000 x3).f6)))))) else (none)) else (some false)
def secateurlaw08_Great.j2 : Nat → Int → Bool → List (S33) → List ByteArray → ByteArray → ByteArray → ByteArray → ByteArray → ByteArray → Bool → Bool → List ByteArray → List (S103) → List (S37) → Option (Bool)
  | 0, _, _, _, _, _, _, _, _, _, _, _, _, _, _ => none
  | k + 1, x3, x57, x102000, x102001, x102002, x102003, x102004, x104000, x104001, x104002, x104003, x104004, x104005, x104006 => if x57 = true then (some true) else (secateurlaw08_Great.l1 k x3 0 x102000 x102001 x102002 x102003 x102004 x104000 x104001 x104002 x104003 x104004 x104005 x104006)
def secateurlaw08_Great.l1 : Nat → Int → Int → List (S33) → List ByteArray → ByteArray → ByteArray → ByteArray → ByteArray → ByteArray → Bool → Bool → List ByteArray → List (S103) → List (S37) → Option (Bool)
  | 0, _, _, _, _, _, _, _, _, _, _, _, _, _, _ => none
  | k + 1, x3, x5, x102000, x102001, x102002, x102003, x102004, x104000, x104001, x104002, x104003, x104004, x104005, x104006 => if x5 < (x104006.length : Int) then (if 0 ≤ x5 then (if (((rd_T37 x104006 x5).f5).length : Int) > 300 then (secateurlaw08_Great.j4 k x3 x5 true x102000 x102001 x102002 x102003 x102004 x104000 x104001 x104002 x104003 x104004 x104005 x104006 ((rd_T37 x104006 x5).f0) ((rd_T37 x104006 x5).f1) ((rd_T37 x104006 x5).f2) ((rd_T37 x104006 x5).f3) ((rd_T37 x104006 x5).f4) ((rd_T37 x104006 x5).f5)) else (if (((rd_T37 x104006 x5).f0).size : Int) > 300 then (secateurlaw08_Great.j4 k x3 x5 true x102000 x102001 x102002 x102003 x102004 x104000 x104001 x104002 x104003 x104004 x104005 x104006 ((rd_T37 x104006 x5).f0) ((rd_T37 x104006 x5).f1) ((rd_T37 x104006 x5).f2) ((rd_T37 x104006 x5).f3) ((rd_T37 x104006 x5).f4) ((rd_T37 x104006 x5).f5)) else (secateurlaw08_Great.j4 k x3 x5 (decide ((((rd_T37 x104006 x5).f1).size : Int) > 300)) x102000 x102001 x102002 x102003 x102004 x104000 x104001 x104002 x104003 x104004 x104005 x104006 ((rd_T37 x104006 x5).f0) ((rd_T37 x104006 x5).f1) ((rd_T37 x104006 x5).f2) ((rd_T37 x104006 x5).f3) ((rd_T37 x104006 x5).f4) ((rd_T37 x104006 x5).f5)))) else (none)) else (secateurlaw08_Great.l0 k (wrap64 (x3 + 1)) x102000 x102001 x102002 x102003 x102004)
def secateurlaw08_Great.j4 : Nat → Int → Int → Bool → List (S33) → List ByteArray → ByteArray → ByteArray → ByteArray → ByteArray → ByteArray → Bool → Bool → List ByteArray → List (S103) → List (S37) → ByteArray → ByteArray → Bool → Bool → Int → List (S74) → Option (Bool)
  | 0, _, _, _, _, _, _, _, _, _, _, _, _, _, _, _, _, _, _, _, _, _ => none
  | k + 1, x3, x5, x85, x102000, x102001, x102002, x102003, x102004, x104000, x104001, x104002, x104003, x104004, x104005, x104006, x106000, x106001, x106002, x106003, x106004, x106005 => if x85 = true then (some true) else (secateurlaw08_Great.l2 k x3 x5 0 x102000 x102001 x102002 x102003 x102004 x104000 x104001 x104002 x104003 x104004 x104005 x104006 x106000 x106001 x106002 x106003 x106004 x106005)
def secateurlaw08_Great.l2 : Nat → Int → Int → Int → List (S33) → List ByteArray → ByteArray → ByteArray → ByteArray → ByteArray → ByteArray → Bool → Bool → List ByteArray → List (S103) → List (S37) → ByteArray → ByteArray → Bool → Bool → Int → List (S74) → Option (Bool)
  | 0, _, _, _, _, _, _, _, _, _, _, _, _, _, _, _, _, _, _, _, _, _ => none
  | k + 1, x3, x5, x7, x102000, x102001, x102002, x102003, x102004, x104000, x104001, x104002, x104003, x104004, x104005, x104006, x106000, x106001, x106002, x106003, x106004, x106005 => if x7 < (x106005.length : Int) then (if 0 ≤ x7 then (if (((rd_T74 x106005 x7).f8).length : Int) > 60 then (some true) else (if (((rd_T74 x106005 x7).f5).size : Int) > 300 then (some true) else (if (((rd_T74 x106005 x7).f6).size : Int) > 300 then (some true) else (if (((rd_T74 x106005 x7).f7).size : Int) > 300 then (some true) else (secateurlaw08_Great.l2 k x3 x5 (wrap64 (x7 + 1)) x102000 x102001 x102002 x102003 x102004 x104000 x104001 x104002 x104003 x104004 x104005 x104006 x106000 x106001 x106002 x106003 x106004 x106005))))) else (none)) else (secateurlaw08_Great.l1 k x3 (wrap64 (x5 + 1)) x102000 x102001 x102002 x102003 x102004 x104000 x104001 x104002 x104003 x104004 x104005 x104006)
end
def secateurlaw08_Great.f (k : Nat) (l0_0 : List (S33)) (l0_1 : List ByteArray) (a0_2 : ByteArray) (a0_3 : ByteArray) (a0_4 : ByteArray) : Option (Bool) := if (l0_0.length : Int) > 70 then (secateurlaw08_Great.j0 k true l0_0 l0_1 a0_2 a0_3 a0_4) else (secateurlaw08_Great.j0 k (decide ((l0_1.length : Int) > 70)) l0_0 l0_1 a0_2 a0_3 a0_4)
theorem secateurlaw08_Great.mono_l : ∀ k, (∀ y0 y1 y2 y3 y4 y5, LeO (secateurlaw08_Great.j0 k y0 y1 y2 y3 y4 y5) (secateurlaw08_Great.j0 (k + 1) y0 y1 y2 y3 y4 y5)) ∧ (∀ y0 y1 y2 y3 y4 y5, LeO (secateurlaw08_Great.l0 k y0 y1 y2 y3 y4 y5) (secateurlaw08_Great.l0 (k + 1) y0 y1 y2 y3 y4 y5)) ∧ (∀ y0 y1 y2 y3 y4 y5 y6 y7 y8 y9 y10 y11 y12 y13, LeO (secateurlaw08_Great.j2 k y0 y1 y2 y3 y4 y5 y6 y7 y8 y9 y10 y11 y12 y13) (secateurlaw08_Great.j2 (k + 1) y0 y1 y2 y3 y4 y5 y6 y7 y8 y9 y10 y11 y12 y13)) ∧ (∀ y0 y1 y2 y3 y4 y5 y6 y7 y8 y9 y10 y11 y12 y13, LeO (secateurlaw08_Great.l1 k y0 y1 y2 y3 y4 y5 y6 y7 y8 y9 y10 y11 y12 y13) (secateurlaw08_Great.l1 (k + 1) y0 y1 y2 y3 y4 y5 y6 y7 y8 y9 y10 y11 y12 y13)) ∧ (∀ y0 y1 y2 y3 y4 y5 y6 y7 y8 y9 y10 y11 y12 y13 y14 y15 y16 y17 y18 y19 y20, LeO (secateurlaw08_Great.j4 k y0 y1 y2 y3 y4 y5 y6 y7 y8 y9 y10 y11 y12 y13 y14 y15 y16 y17 y18 y19 y20) (secateurlaw08_Great.j4 (k + 1) y0 y1 y2 y3 y4 y5 y6 y7 y8 y9 y10 y11 y12 y13 y14 y15 y16 y17 y18 y19 y20)) ∧ (∀ y0 y1 y2 y3 y4 y5 y6 y7 y8 y9 y10 y11 y12 y13 y14 y15 y16 y17 y18 y19 y20, LeO (secateurlaw08_Great.l2 k y0 y1 y2 y3 y4 y5 y6 y7 y8 y9 y10 y11 y12 y13 y14 y15 y16 y17 y18 y19 y20) (secateurlaw08_Great.l2 (k + 1) y0 y1 y2 y3 y4 y5 y6 y7 y8 y9 y10 y11 y12 y13 y14 y15 y16 y17 y18 y19 y20))
  | 0 => ⟨fun _ _ _ _ _ _ r h => by simp [secateurlaw08_Great.j0] at h, fun _ _ _ _ _ _ r h => by simp [secateurlaw08_Great.l0] at h, fun _ _ _ _ _ _ _ _ _ _ _ _ _ _ r h => by simp [secateurlaw08_Great.j2] at h, fun _ _ _ _ _ _ _ _ _ _ _ _ _ _ r h => by simp [secateurlaw08_Great.l1] at h, fun _ _ _ _ _ _ _ _ _ _ _ _ _ _ _ _ _ _ _ _ _ r h => by simp [secateurlaw08_Great.j4] at h, fun _ _ _ _ _ _ _ _ _ _ _ _ _ _ _ _ _ _ _ _ _ r h => by simp [secateurlaw08_Great.l2] at h⟩
  | k + 1 => by
    obtain ⟨ih0, ih1, ih2, ih3, ih4, ih5⟩ := secateurlaw08_Great.mono_l k
    refine ⟨?_, ?_, ?_, ?_, ?_, ?_⟩
    · intro y0 y1 y2 y3 y4 y5
      unfold secateurlaw08_Great.j0
      repeat' first
      | (with_reducible exact ih0 _ _ _ _ _ _)
      | (with_reducible exact ih1 _ _ _ _ _ _)
      | (with_reducible exact ih2 _ _ _ _ _ _ _ _ _ _ _ _ _ _)
      | (with_reducible exact ih3 _ _ _ _ _ _ _ _ _ _ _ _ _ _)
      | (with_reducible exact ih4 _ _ _ _ _ _ _ _ _ _ _ _ _ _ _ _ _ _ _ _ _)
      | (with_reducible exact ih5 _ _ _ _ _ _ _ _ _ _ _ _ _ _ _ _ _ _ _ _ _)
      | (with_reducible exact LeO.refl _)
      | (with_reducible exact LeO.none _)
      | (with_reducible refine LeO.ite ?_ ?_)
      | (with_reducible refine LeO.bind ?_ (fun _ => ?_))
      | exact ih0 _ _ _ _ _ _
      | exact ih1 _ _ _ _ _ _
      | exact ih2 _ _ _ _ _ _ _ _ _ _ _ _ _ _
      | exact ih3 _ _ _ _ _ _ _ _ _ _ _ _ _ _
      | exact ih4 _ _ _ _ _ _ _ _ _ _ _ _ _ _ _ _ _ _ _ _ _
      | exact ih5 _ _ _ _ _ _ _ _ _ _ _ _ _ _ _ _ _ _ _ _ _
      | exact LeO.none _
      | refine LeO.ite ?_ ?_
      | refine LeO.bind ?_ (fun _ => ?_)
    · intro y0 y1 y2 y3 y4 y5
      unfold secateurlaw08_Great.l0
      repeat' first
      | (with_reducible exact ih0 _ _ _ _ _ _)
      | (with_reducible exact ih1 _ _ _ _ _ _)
      | (with_reducible exact ih2 _ _ _ _ _ _ _ _ _ _ _ _ _ _)
      | (with_reducible exact ih3 _ _ _ _ _ _ _ _ _ _ _ _ _ _)
      | (with_reducible exact ih4 _ _ _ _ _ _ _ _ _ _ _ _ _ _ _ _ _ _ _ _ _)
      | (with_reducible exact ih5 _ _ _ _ _ _ _ _ _ _ _ _ _ _ _ _ _ _ _ _ _)
      | (with_reducible exact LeO.refl _)
      | (with_reducible exact LeO.none _)
      | (with_reducible refine LeO.ite ?_ ?_)
      | (with_reducible refine LeO.bind ?_ (fun _ => ?_))
      | exact ih0 _ _ _ _ _ _
      | exact ih1 _ _ _ _ _ _
      | exact ih2 _ _ _ _ _ _ _ _ _ _ _ _ _ _
      | exact ih3 _ _ _ _ _ _ _ _ _ _ _ _ _ _
      | exact ih4 _ _ _ _ _ _ _ _ _ _ _ _ _ _ _ _ _ _ _ _ _
      | exact ih5 _ _ _ _ _ _ _ _ _ _ _ _ _ _ _ _ _ _ _ _ _
      | exact LeO.none _
      | refine LeO.ite ?_ ?_
      | refine LeO.bind ?_ (fun _ => ?_)
    · intro y0 y1 y2 y3 y4 y5 y6 y7 y8 y9 y10 y11 y12 y13
      unfold secateurlaw08_Great.j2
      repeat' first
      | (with_reducible exact ih0 _ _ _ _ _ _)
      | (with_reducible exact ih1 _ _ _ _ _ _)
      | (with_reducible exact ih2 _ _ _ _ _ _ _ _ _ _ _ _ _ _)
      | (with_reducible exact ih3 _ _ _ _ _ _ _ _ _ _ _ _ _ _)
      | (with_reducible exact ih4 _ _ _ _ _ _ _ _ _ _ _ _ _ _ _ _ _ _ _ _ _)
      | (with_reducible exact ih5 _ _ _ _ _ _ _ _ _ _ _ _ _ _ _ _ _ _ _ _ _)
      | (with_reducible exact LeO.refl _)
      | (with_reducible exact LeO.none _)
      | (with_reducible refine LeO.ite ?_ ?_)
      | (with_reducible refine LeO.bind ?_ (fun _ => ?_))
      | exact ih0 _ _ _ _ _ _
      | exact ih1 _ _ _ _ _ _
      | exact ih2 _ _ _ _ _ _ _ _ _ _ _ _ _ _
      | exact ih3 _ _ _ _ _ _ _ _ _ _ _ _ _ _
      | exact ih4 _ _ _ _ _ _ _ _ _ _ _ _ _ _ _ _ _ _ _ _ _
      | exact ih5 _ _ _ _ _ _ _ _ _ _ _ _ _ _ _ _ _ _ _ _ _
      | exact LeO.none _
      | refine LeO.ite ?_ ?_
      | refine LeO.bind ?_ (fun _ => ?_)
    · intro y0 y1 y2 y3 y4 y5 y6 y7 y8 y9 y10 y11 y12 y13
      unfold secateurlaw08_Great.l1
      repeat' first
      | (with_reducible exact ih0 _ _ _ _ _ _)
      | (with_reducible exact ih1 _ _ _ _ _ _)
      | (with_reducible exact ih2 _ _ _ _ _ _ _ _ _ _ _ _ _ _)
      | (with_reducible exact ih3 _ _ _ _ _ _ _ _ _ _ _ _ _ _)
      | (with_reducible exact ih4 _ _ _ _ _ _ _ _ _ _ _ _ _ _ _ _ _ _ _ _ _)
      | (with_reducible exact ih5 _ _ _ _ _ _ _ _ _ _ _ _ _ _ _ _ _ _ _ _ _)
      | (with_reducible exact LeO.refl _)
      | (with_reducible exact LeO.none _)
      | (with_reducible refine LeO.ite ?_ ?_)
      | (with_reducible refine LeO.bind ?_ (fun _ => ?_))
      | exact ih0 _ _ _ _ _ _
      | exact ih1 _ _ _ _ _ _
      | exact ih2 _ _ _ _ _ _ _ _ _ _ _ _ _ _
      | exact ih3 _ _ _ _ _ _ _ _ _ _ _ _ _ _
      | exact ih4 _ _ _ _ _ _ _ _ _ _ _ _ _ _ _ _ _ _ _ _ _
      | exact ih5 _ _ _ _ _ _ _ _ _ _ _ _ _ _ _ _ _ _ _ _ _
      | exact LeO.none _
      | refine LeO.ite ?_ ?_
      | refine LeO.bind ?_ (fun _ => ?_)
    · intro y0 y1 y2 y3 y4 y5 y6 y7 y8 y9 y10 y11 y12 y13 y14 y15 y16 y17 y18 y19 y20
      unfold secateurlaw08_Great.j4
      repeat' first
      | (with_reducible exact ih0 _ _ _ _ _ _)
      | (with_reducible exact ih1 _ _ _ _ _ _)
      | (with_reducible exact ih2 _ _ _ _ _ _ _ _ _ _ _ _ _ _)
      | (with_reducible exact ih3 _ _ _ _ _ _ _ _ _ _ _ _ _ _)
      | (with_reducible exact ih4 _ _ _ _ _ _ _ _ _ _ _ _ _ _ _ _ _ _ _ _ _)
      | (with_reducible exact ih5 _ _ _ _ _ _ _ _ _ _ _ _ _ _ _ _ _ _ _ _ _)
      | (with_reducible exact LeO.refl _)
      | (with_reducible exact LeO.none _)
      | (with_reducible refine LeO.ite ?_ ?_)
      | (with_reducible refine LeO.bind ?_ (fun _ => ?_))
      | exact ih0 _ _ _ _ _ _
      | exact ih1 _ _ _ _ _ _
      | exact ih2 _ _ _ _ _ _ _ _ _ _ _ _ _ _
      | exact ih3 _ _ _ _ _ _ _ _ _ _ _ _ _ _
      | exact ih4 _ _ _ _ _ _ _ _ _ _ _ _ _ _ _ _ _ _ _ _ _
      | exact ih5 _ _ _ _ _ _ _ _ _ _ _ _ _ _ _ _ _ _ _ _ _
      | exact LeO.none _
      | refine LeO.ite ?_ ?_
      | refine LeO.bind ?_ (fun _ => ?_)
    · intro y0 y1 y2 y3 y4 y5 y6 y7 y8 y9 y10 y11 y12 y13 y14 y15 y16 y17 y18 y19 y20
      unfold secateurlaw08_Great.l2
      repeat' first
      | (with_reducible exact ih0 _ _ _ _ _ _)
      | (with_reducible exact ih1 _ _ _ _ _ _)
      | (with_reducible exact ih2 _ _ _ _ _ _ _ _ _ _ _ _ _ _)
      | (with_reducible exact ih3 _ _ _ _ _ _ _ _ _ _ _ _ _ _)
      | (with_reducible exact ih4 _ _ _ _ _ _ _ _ _ _ _ _ _ _ _ _ _ _ _ _ _)
      | (with_reducible exact ih5 _ _ _ _ _ _ _ _ _ _ _ _ _ _ _ _ _ _ _ _ _)
      | (with_reducible exact LeO.refl _)
      | (with_reducible exact LeO.none _)
      | (with_reducible refine LeO.ite ?_ ?_)
      | (with_reducible refine LeO.bind ?_ (fun _ => ?_))
      | exact ih0 _ _ _ _ _ _
      | exact ih1 _ _ _ _ _ _
      | exact ih2 _ _ _ _ _ _ _ _ _ _ _ _ _ _
      | exact ih3 _ _ _ _ _ _ _ _ _ _ _ _ _ _
      | exact ih4 _ _ _ _ _ _ _ _ _ _ _ _ _ _ _ _ _ _ _ _ _
      | exact ih5 _ _ _ _ _ _ _ _ _ _ _ _ _ _ _ _ _ _ _ _ _
      | exact LeO.none _
      | refine LeO.ite ?_ ?_
      | refine LeO.bind ?_ (fun _ => ?_)
theorem secateurlaw08_Great.mono : ∀ a0 a1 a2 a3 a4 k, LeO (secateurlaw08_Great.f k a0 a1 a2 a3 a4) (secateurlaw08_Great.f (k + 1) a0 a1 a2 a3 a4) := by
  intro a0 a1 a2 a3 a4 k
  obtain ⟨ih0, ih1, ih2, ih3, ih4, ih5⟩ := secateurlaw08_Great.mono_l k
  unfold secateurlaw08_Great.f
  repeat' first
      | (with_reducible exact ih0 _ _ _ _ _ _)
      | (with_reducible exact ih1 _ _ _ _ _ _)
      | (with_reducible exact ih2 _ _ _ _ _ _ _ _ _ _ _ _ _ _)
      | (with_reducible exact ih3 _ _ _ _ _ _ _ _ _ _ _ _ _ _)
      | (with_reducible exact ih4 _ _ _ _ _ _ _ _ _ _ _ _ _ _ _ _ _ _ _ _ _)
      | (with_reducible exact ih5 _ _ _ _ _ _ _ _ _ _ _ _ _ _ _ _ _ _ _ _ _)
      | (with_reducible exact LeO.refl _)
      | (with_reducible exact LeO.none _)
      | (with_reducible refine LeO.ite ?_ ?_)
      | (with_reducible refine LeO.bind ?_ (fun _ => ?_))
      | exact ih0 _ _ _ _ _ _
      | exact ih1 _ _ _ _ _ _
      | exact ih2 _ _ _ _ _ _ _ _ _ _ _ _ _ _
      | exact ih3 _ _ _ _ _ _ _ _ _ _ _ _ _ _
      | exact ih4 _ _ _ _ _ _ _ _ _ _ _ _ _ _ _ _ _ _ _ _ _
      | exact ih5 _ _ _ _ _ _ _ _ _ _ _ _ _ _ _ _ _ _ _ _ _
      | exact LeO.none _
      | refine LeO.ite ?_ ?_
      | refine LeO.bind ?_ (fun _ => ?_)
set_option maxHeartbeats 8000000 in
set_option maxRecDepth 100000 in
theorem secateurlaw08_Great.calls (k : Nat) (A0_0 : Option Addr) (c0_0 : Nat) (l0_0 : List (S33)) (A0_1 : Option Addr) (c0_1 : Nat) (l0_1 : List ByteArray) (a0_2 : ByteArray) (a0_3 : ByteArray) (a0_4 : ByteArray) (r : Bool) (w : World) (hr0_0 : Kd.C k33 w A0_0 l0_0.length l0_0) (hc0_0 : l0_0.length ≤ c0_0) (hr0_1 : Kd.C Kd.string w A0_1 l0_1.length l0_1) (hc0_1 : l0_1.length ≤ c0_1) (h : secateurlaw08_Great.f k l0_0 l0_1 a0_2 a0_3 a0_4 = some r) :
    Calls Try.prog 9 #[.agg #[.slice A0_0 l0_0.length c0_0, .slice A0_1 l0_1.length c0_1, .string a0_2, .string a0_3, .string a0_4]] w fun e w' => e = .returned (.bool r) ∧ Below w.heap.size w w' := by
  have hu27 := Try.underlying27
  have hu33 := Try.underlying33
  have hu37 := Try.underlying37
  have HR0_0 := Aside0.mk hr0_0
  have HC0_0 := Aside0.mk hc0_0
  clear hr0_0 hc0_0
  have HR0_1 := Aside0.mk hr0_1
  have HC0_1 := Aside0.mk hc0_1
  clear hr0_1 hc0_1
  have HB := Aside0.mk (Below.refl w.heap.size w)
  have H : (if (l0_0.length : Int) > 70 then (secateurlaw08_Great.j0 k true l0_0 l0_1 a0_2 a0_3 a0_4) else (secateurlaw08_Great.j0 k (decide ((l0_1.length : Int) > 70)) l0_0 l0_1 a0_2 a0_3 a0_4)) = some r := h
  clear h
  have HC2 := Aside0.mk H
  clear H
  go_enter Try.func9, Try.ntmps9
  go_upto_region 1 with (first | ((with_reducible refine gate_dst (N := 1) rfl ?_); (try (refine gate_guard (by rfl) ?_; dsimp only)); refine box_event ?hg (N := 1) ?hd (cs := #[.slice A0_0 l0_0.length c0_0, .slice A0_1 l0_1.length c0_1, .string a0_2, .string a0_3, .string a0_4]) (t := 27) ?hr ?_; (case hd => rfl); (case hg => rfl); (case hr => first | (go_simp; done) | (go_simp; rfl)); intro gb101 hg w3 hbox hb; have n0_ := Aside0.mk (below_step (by repeat (first | (with_reducible first | exact HB.out | apply below_alloc | apply pw_below_drewN | apply below_drew1) | exact HB.out)) hb); have n1_ := Aside0.mk (hbox); have n2_ := Aside0.mk ((by rw [hg]; exact (below_size (by repeat (first | (with_reducible first | exact HB.out | apply below_alloc | apply pw_below_drewN | apply below_drew1) | exact HB.out))) : w.heap.size ≤ gb101)); have n3_ := Aside0.mk ((by rw [hg]; exact (below_size (by repeat (first | (with_reducible first | exact HB.out | apply below_alloc | apply pw_below_drewN | apply below_drew1) | exact HB.out))) : w.heap.size ≤ gb101)); clear HB; have HB := n0_; have BK101 := n1_; have GW101 := n2_; have GE101 := n3_; clear n0_ n1_ n2_ n3_; clear hb hbox hg))
  (try simp only [Act.put, List.setIfInBounds_toArray, List.set_cons_zero, List.set_cons_succ])
  go_cut [17] (fun v17 wc => ∃ (kq : Nat) (x17_1 : Bool), v17 = .bool x17_1 ∧ Aside0 (secateurlaw08_Great.j0 kq x17_1 l0_0 l0_1 a0_2 a0_3 a0_4 = some r) ∧ Aside0 (kq ≤ k) ∧ Aside0 (wc.heap[gb101]? = some (.cells #[(.slice A0_0 l0_0.length c0_0), (.slice A0_1 l0_1.length c0_1), .string a0_2, .string a0_3, .string a0_4] 27 (0, 0))) ∧ Aside0 (Below w.heap.size w wc))
  case first =>
    have H := HC2.out
    clear HC2
    by_cases c4 : (l0_0.length : Int) > 70
    · rw [if_pos c4] at H
      have c4b0 : decide (70 < (l0_0.length : Int)) = true := decide_eq_true c4
      have c4b1 : decide (70 < l0_0.length) = true := decide_eq_true (by omega)
      clear c4
      (first | rw [c4b0] | rw [c4b1] | (simp only [i64_w, i32_w]; rw [c4b0]) | skip)
      have H' := Aside0.mk H
      clear H
      have hcz5_0 : w3.cell? ⟨gb101, 0, none⟩ = some (.slice A0_0 l0_0.length c0_0) := (blk_cell BK101.out 0).trans rfl
      have hcz5_1 : w3.cell? ⟨gb101, 1, none⟩ = some (.slice A0_1 l0_1.length c0_1) := (blk_cell BK101.out 1).trans rfl
      have hcz5_2 : w3.cell? ⟨gb101, 2, none⟩ = some (.string a0_2) := (blk_cell BK101.out 2).trans rfl
      have hcz5_3 : w3.cell? ⟨gb101, 3, none⟩ = some (.string a0_3) := (blk_cell BK101.out 3).trans rfl
      have hcz5_4 : w3.cell? ⟨gb101, 4, none⟩ = some (.string a0_4) := (blk_cell BK101.out 4).trans rfl
      have hfz5_0 := blk_frozen BK101.out 0
      have hfz5_1 := blk_frozen BK101.out 1
      have hfz5_2 := blk_frozen BK101.out 2
      have hfz5_3 := blk_frozen BK101.out 3
      have hfz5_4 := blk_frozen BK101.out 4
      go_wp2
      go_meet
      case rel => exact ⟨_, (true), (by first | rfl | (simp; done) | (simp [*]; done)), H', ⟨by first | omega | exact Nat.le_refl _⟩, ⟨by (with_reducible repeat (first | refine blk_drewN ?_ _ | refine blk_drew ?_ | refine blk_alloc ?_ _)); exact BK101.out⟩, ⟨by repeat (first | (with_reducible first | exact HB.out | apply below_alloc | apply pw_below_drewN | apply below_drew1 | refine below_set ?_ GE101.out) | exact HB.out)⟩⟩
    · rw [if_neg c4] at H
      have c4b0 : decide (70 < (l0_0.length : Int)) = false := decide_eq_false c4
      have c4b1 : decide (70 < l0_0.length) = false := decide_eq_false (by omega)
      clear c4
      (first | rw [c4b0] | rw [c4b1] | (simp only [i64_w, i32_w]; rw [c4b0]) | skip)
      have H' := Aside0.mk H
      clear H
      have hcz6_0 : w3.cell? ⟨gb101, 0, none⟩ = some (.slice A0_0 l0_0.length c0_0) := (blk_cell BK101.out 0).trans rfl
      have hcz6_1 : w3.cell? ⟨gb101, 1, none⟩ = some (.slice A0_1 l0_1.length c0_1) := (blk_cell BK101.out 1).trans rfl
      have hcz6_2 : w3.cell? ⟨gb101, 2, none⟩ = some (.string a0_2) := (blk_cell BK101.out 2).trans rfl
      have hcz6_3 : w3.cell? ⟨gb101, 3, none⟩ = some (.string a0_3) := (blk_cell BK101.out 3).trans rfl
      have hcz6_4 : w3.cell? ⟨gb101, 4, none⟩ = some (.string a0_4) := (blk_cell BK101.out 4).trans rfl
      have hfz6_0 := blk_frozen BK101.out 0
      have hfz6_1 := blk_frozen BK101.out 1
      have hfz6_2 := blk_frozen BK101.out 2
      have hfz6_3 := blk_frozen BK101.out 3
      have hfz6_4 := blk_frozen BK101.out 4
      go_wp2
      go_meet
      case rel => exact ⟨_, (decide ((l0_1.length : Int) > 70)), (by first | rfl | (simp; done) | (simp [*]; done)), H', ⟨by first | omega | exact Nat.le_refl _⟩, ⟨by (with_reducible repeat (first | refine blk_drewN ?_ _ | refine blk_drew ?_ | refine blk_alloc ?_ _)); exact BK101.out⟩, ⟨by repeat (first | (with_reducible first | exact HB.out | apply below_alloc | apply pw_below_drewN | apply below_drew1 | refine below_set ?_ GE101.out) | exact HB.out)⟩⟩
  case rest =>
    clear HC2
    try clear p2
    try clear c4
    try clear c4b0
    try clear c4b1
    try clear hcz5_0
    try clear hcz5_1
    try clear hcz5_2
    try clear hcz5_3
    try clear hcz5_4
    try clear hcz6_0
    try clear hcz6_1
    try clear hcz6_2
    try clear hcz6_3
    try clear hcz6_4
    try clear hfz5_0
    try clear hfz5_1
    try clear hfz5_2
    try clear hfz5_3
    try clear hfz5_4
    try clear hfz6_0
    try clear hfz6_1
    try clear hfz6_2
    try clear hfz6_3
    try clear hfz6_4
    obtain ⟨kq, x17_1, rfl, HA, HJ1, BK101, HB⟩ := hcut
    cases kq with
    | zero => exact absurd HA.out (by simp [secateurlaw08_Great.j0])
    | succ kj1 =>
      have H := HA.out
      clear HA
      simp only [secateurlaw08_Great.j0] at H
      by_cases c7 : x17_1 = true
      · subst c7
        have H1 : (some true) = some r := by rw [if_pos rfl] at H; exact H
        clear H
        have H := H1
        clear H1
        obtain rfl := Option.some.inj H
        go_wp2
        go_ret
        exact ⟨by first | rfl | (simp [errW_none, errW_some] <;> rfl) | (simp [*, errW_none, errW_some] <;> rfl), by repeat (first | (with_reducible first | exact HB.out | apply below_alloc | apply pw_below_drewN | apply below_drew1 | refine below_set ?_ GE101.out) | exact HB.out)⟩
      · replace c7 := Bool.eq_false_iff.mpr c7
        subst c7
        have H1 : (secateurlaw08_Great.l0 kj1 0 l0_0 l0_1 a0_2 a0_3 a0_4) = some r := by rw [if_neg (show ¬ (false = true) by decide)] at H; exact H
        clear H
        have H := H1
        clear H1
        have H' := Aside0.mk H
        clear H
        go_wp2
        go_loopg [3] kj1 (fun kq v3 w' => ∃ (x3_2 : Int), v3 = .int .i64 x3_2 ∧ Aside0 (secateurlaw08_Great.l0 kq x3_2 l0_0 l0_1 a0_2 a0_3 a0_4 = some r) ∧ Aside0 (kq ≤ kj1) ∧ Aside0 (w'.heap[gb101]? = some (.cells #[(.slice A0_0 l0_0.length c0_0), (.slice A0_1 l0_1.length c0_1), .string a0_2, .string a0_3, .string a0_4] 27 (0, 0))) ∧ Aside0 (Below w.heap.size w w'))
        case atStart => exact ⟨(0), (by first | rfl | (simp; done) | (simp [*]; done)), H', ⟨Nat.le_refl _⟩, ⟨by (with_reducible repeat (first | refine blk_drewN ?_ _ | refine blk_drew ?_ | refine blk_alloc ?_ _)); exact BK101.out⟩, ⟨by repeat (first | (with_reducible first | exact HB.out | apply below_alloc | apply pw_below_drewN | apply below_drew1 | refine below_set ?_ GE101.out) | exact HB.out)⟩⟩
        case round =>
          clear H'
          try clear p2
          try clear c4
          try clear c4b0
          try clear c4b1
          try clear c7
          try clear hcz5_0
          try clear hcz5_1
          try clear hcz5_2
          try clear hcz5_3
          try clear hcz5_4
          try clear hcz6_0
          try clear hcz6_1
          try clear hcz6_2
          try clear hcz6_3
          try clear hcz6_4
          try clear hfz5_0
          try clear hfz5_1
          try clear hfz5_2
          try clear hfz5_3
          try clear hfz5_4
          try clear hfz6_0
          try clear hfz6_1
          try clear hfz6_2
          try clear hfz6_3
          try clear hfz6_4
          try clear p2
          obtain ⟨x3_2, rfl, HA, HK2, BK101, HB⟩ := hrel
          cases gk with
          | zero => exact absurd HA.out (by simp [secateurlaw08_Great.l0])
          | succ k2 =>
            have H := HA.out
            clear HA
            simp only [secateurlaw08_Great.l0] at H
            by_cases c8 : x3_2 < (l0_0.length : Int)
            · rw [if_pos c8] at H
              have c8b0 : decide (x3_2 < (l0_0.length : Int)) = true := decide_eq_true c8
              clear c8
              by_cases c9 : 0 ≤ x3_2
              · rw [if_pos c9] at H
                have c9b0 : decide (0 ≤ x3_2) = true := decide_eq_true c9
                clear c9
                have HC10 := Aside0.mk H
                clear H
                have hcz11_0 : wr.cell? ⟨gb101, 0, none⟩ = some (.slice A0_0 l0_0.length c0_0) := (blk_cell BK101.out 0).trans rfl
                have hcz11_1 : wr.cell? ⟨gb101, 1, none⟩ = some (.slice A0_1 l0_1.length c0_1) := (blk_cell BK101.out 1).trans rfl
                have hcz11_2 : wr.cell? ⟨gb101, 2, none⟩ = some (.string a0_2) := (blk_cell BK101.out 2).trans rfl
                have hcz11_3 : wr.cell? ⟨gb101, 3, none⟩ = some (.string a0_3) := (blk_cell BK101.out 3).trans rfl
                have hcz11_4 : wr.cell? ⟨gb101, 4, none⟩ = some (.string a0_4) := (blk_cell BK101.out 4).trans rfl
                have hfz11_0 := blk_frozen BK101.out 0
                have hfz11_1 := blk_frozen BK101.out 1
                have hfz11_2 := blk_frozen BK101.out 2
                have hfz11_3 := blk_frozen BK101.out 3
                have hfz11_4 := blk_frozen BK101.out 4
                have p102 : 0 ≤ (x3_2 : Int) := of_decide_eq_true (by first | (with_reducible assumption) | assumption)
                have q102 : x3_2 < (l0_0.length : Int) := of_decide_eq_true (by first | (with_reducible assumption) | assumption)
                obtain ⟨ad102, A102_4, c102_4, A102_5, c102_5, A102_6, c102_6, e102, hx102_0, hx102_1, hx102_2, hx102_3, hx102_4, hx102_5, hx102_6, hl102_4, hi102_4, hl102_5, hi102_5, hl102_6, hi102_6⟩ := at_T33 HR0_0.out x3_2 p102 q102
                cases e102
                replace hx102_0 := (HB.out.cell (World.block_lt_of_cell? w _ hx102_0)).trans hx102_0
                replace hx102_1 := (HB.out.cell (World.block_lt_of_cell? w _ hx102_1)).trans hx102_1
                replace hx102_2 := (HB.out.cell (World.block_lt_of_cell? w _ hx102_2)).trans hx102_2
                replace hx102_3 := (HB.out.cell (World.block_lt_of_cell? w _ hx102_3)).trans hx102_3
                replace hx102_4 := (HB.out.cell (World.block_lt_of_cell? w _ hx102_4)).trans hx102_4
                replace hx102_5 := (HB.out.cell (World.block_lt_of_cell? w _ hx102_5)).trans hx102_5
                replace hx102_6 := (HB.out.cell (World.block_lt_of_cell? w _ hx102_6)).trans hx102_6
                have HR102_4 := Aside0.mk hi102_4
                have HC102_4 := Aside0.mk hl102_4
                clear hi102_4 hl102_4
                have HR102_5 := Aside0.mk hi102_5
                have HC102_5 := Aside0.mk hl102_5
                clear hi102_5 hl102_5
                have HR102_6 := Aside0.mk hi102_6
                have HC102_6 := Aside0.mk hl102_6
                clear hi102_6 hl102_6
                replace p102 := eq_true p102
                replace q102 := eq_true q102
                go_upto_region 7 with (first | ((with_reducible refine gate_dst (N := 4) rfl ?_); (try (refine gate_guard (by rfl) ?_; dsimp only)); refine box_event ?hg (N := 4) ?hd (cs := #[.string (⟨#[]⟩ : ByteArray), .string (⟨#[]⟩ : ByteArray), .bool false, .bool false, .slice none 0 0, .slice none 0 0, .slice none 0 0]) (t := 33) ?hr ?_; (case hd => rfl); (case hg => rfl); (case hr => first | (go_simp; done) | (go_simp; rfl)); intro gb103 hg w12 hbox hb; have n0_ := Aside0.mk (blk_below (g := gb101) (o := .cells #[.slice (some ad102) l0_0.length c0_0, .slice A0_1 l0_1.length c0_1, .string a0_2, .string a0_3, .string a0_4] 27 (0, 0)) (by (with_reducible repeat (first | refine blk_drewN ?_ _ | refine blk_drew ?_ | refine blk_alloc ?_ _)); exact BK101.out) hb); have n1_ := Aside0.mk (below_step (by repeat (first | (with_reducible first | exact HB.out | apply below_alloc | apply pw_below_drewN | apply below_drew1 | refine below_set ?_ GE101.out) | exact HB.out)) hb); have n2_ := Aside0.mk (hbox); have n3_ := Aside0.mk ((by rw [hg]; exact (below_size (by repeat (first | (with_reducible first | exact HB.out | apply below_alloc | apply pw_below_drewN | apply below_drew1 | refine below_set ?_ GE101.out) | exact HB.out))) : w.heap.size ≤ gb103)); have n4_ := Aside0.mk ((by rw [hg]; exact (below_size (by repeat (first | (with_reducible first | exact HB.out | apply below_alloc | apply pw_below_drewN | apply below_drew1 | refine below_set ?_ GE101.out) | exact HB.out))) : w.heap.size ≤ gb103)); have n5_ := Aside0.mk ((by rw [hg]; exact Nat.ne_of_lt (blk_lt (g := gb101) (o := .cells #[.slice (some ad102) l0_0.length c0_0, .slice A0_1 l0_1.length c0_1, .string a0_2, .string a0_3, .string a0_4] 27 (0, 0)) (by (with_reducible repeat (first | refine blk_drewN ?_ _ | refine blk_drew ?_ | refine blk_alloc ?_ _)); exact BK101.out)) : gb101 ≠ gb103)); have n6_ := Aside0.mk ((by rw [hg]; exact Nat.ne_of_gt (blk_lt (g := gb101) (o := .cells #[.slice (some ad102) l0_0.length c0_0, .slice A0_1 l0_1.length c0_1, .string a0_2, .string a0_3, .string a0_4] 27 (0, 0)) (by (with_reducible repeat (first | refine blk_drewN ?_ _ | refine blk_drew ?_ | refine blk_alloc ?_ _)); exact BK101.out)) : gb103 ≠ gb101)); clear BK101; clear HB; have BK101 := n0_; have HB := n1_; have BK103 := n2_; have GW103 := n3_; have GE103 := n4_; have NB101_103 := n5_; have NB103_101 := n6_; clear n0_ n1_ n2_ n3_ n4_ n5_ n6_; clear hb hbox hg; have hnb13 := NB103_101.out; have hnc13 := NB101_103.out; have hcz14_0 : w12.cell? ⟨gb103, 0, none⟩ = some (.string (⟨#[]⟩ : ByteArray)) := (blk_cell BK103.out 0).trans rfl; have hcz14_1 : w12.cell? ⟨gb103, 1, none⟩ = some (.string (⟨#[]⟩ : ByteArray)) := (blk_cell BK103.out 1).trans rfl; have hcz14_2 : w12.cell? ⟨gb103, 2, none⟩ = some (.bool false) := (blk_cell BK103.out 2).trans rfl; have hcz14_3 : w12.cell? ⟨gb103, 3, none⟩ = some (.bool false) := (blk_cell BK103.out 3).trans rfl; have hcz14_4 : w12.cell? ⟨gb103, 4, none⟩ = some (.slice none 0 0) := (blk_cell BK103.out 4).trans rfl; have hcz14_5 : w12.cell? ⟨gb103, 5, none⟩ = some (.slice none 0 0) := (blk_cell BK103.out 5).trans rfl; have hcz14_6 : w12.cell? ⟨gb103, 6, none⟩ = some (.slice none 0 0) := (blk_cell BK103.out 6).trans rfl; have hfz14_0 := blk_frozen BK103.out 0; have hfz14_1 := blk_frozen BK103.out 1; have hfz14_2 := blk_frozen BK103.out 2; have hfz14_3 := blk_frozen BK103.out 3; have hfz14_4 := blk_frozen BK103.out 4; have hfz14_5 := blk_frozen BK103.out 5; have hfz14_6 := blk_frozen BK103.out 6))
                (try simp only [Act.put, List.setIfInBounds_toArray, List.set_cons_zero, List.set_cons_succ])
                go_cut [57] (fun v57 wc => ∃ (kq : Nat) (x57_9 : Bool), v57 = .bool x57_9 ∧ Aside0 (secateurlaw08_Great.j2 kq x3_2 x57_9 l0_0 l0_1 a0_2 a0_3 a0_4 ((rd_T33 l0_0 x3_2).f0) ((rd_T33 l0_0 x3_2).f1) ((rd_T33 l0_0 x3_2).f2) ((rd_T33 l0_0 x3_2).f3) ((rd_T33 l0_0 x3_2).f4) ((rd_T33 l0_0 x3_2).f5) ((rd_T33 l0_0 x3_2).f6) = some r) ∧ Aside0 (kq ≤ k2) ∧ Aside0 (wc.heap[gb101]? = some (.cells #[(.slice (some ad102) l0_0.length c0_0), (.slice A0_1 l0_1.length c0_1), .string a0_2, .string a0_3, .string a0_4] 27 (0, 0))) ∧ Aside0 (wc.heap[gb103]? = some (.cells #[.string ((rd_T33 l0_0 x3_2).f0), .string ((rd_T33 l0_0 x3_2).f1), .bool ((rd_T33 l0_0 x3_2).f2), .bool ((rd_T33 l0_0 x3_2).f3), (.slice A102_4 ((rd_T33 l0_0 x3_2).f4).length c102_4), (.slice A102_5 ((rd_T33 l0_0 x3_2).f5).length c102_5), (.slice A102_6 ((rd_T33 l0_0 x3_2).f6).length c102_6)] 33 (0, 0))) ∧ Aside0 (Below w.heap.size w wc))
                case first =>
                  have H := HC10.out
                  clear HC10
                  by_cases c15 : (((rd_T33 l0_0 x3_2).f4).length : Int) > 40
                  · rw [if_pos c15] at H
                    have c15b0 : decide (40 < (((rd_T33 l0_0 x3_2).f4).length : Int)) = true := decide_eq_true c15
                    have c15b1 : decide (40 < ((rd_T33 l0_0 x3_2).f4).length) = true := decide_eq_true (by omega)
                    clear c15
                    (first | rw [c15b0] | rw [c15b1] | (simp only [i64_w, i32_w]; rw [c15b0]) | skip)
                    have H' := Aside0.mk H
                    clear H
                    have hnb16 := NB103_101.out
                    have hnc16 := NB101_103.out
                    have hcz17_0 : w12.cell? ⟨gb103, 0, none⟩ = some (.string (⟨#[]⟩ : ByteArray)) := (blk_cell BK103.out 0).trans rfl
                    have hcz17_1 : w12.cell? ⟨gb103, 1, none⟩ = some (.string (⟨#[]⟩ : ByteArray)) := (blk_cell BK103.out 1).trans rfl
                    have hcz17_2 : w12.cell? ⟨gb103, 2, none⟩ = some (.bool false) := (blk_cell BK103.out 2).trans rfl
                    have hcz17_3 : w12.cell? ⟨gb103, 3, none⟩ = some (.bool false) := (blk_cell BK103.out 3).trans rfl
                    have hcz17_4 : w12.cell? ⟨gb103, 4, none⟩ = some (.slice none 0 0) := (blk_cell BK103.out 4).trans rfl
                    have hcz17_5 : w12.cell? ⟨gb103, 5, none⟩ = some (.slice none 0 0) := (blk_cell BK103.out 5).trans rfl
                    have hcz17_6 : w12.cell? ⟨gb103, 6, none⟩ = some (.slice none 0 0) := (blk_cell BK103.out 6).trans rfl
                    have hfz17_0 := blk_frozen BK103.out 0
                    have hfz17_1 := blk_frozen BK103.out 1
                    have hfz17_2 := blk_frozen BK103.out 2
                    have hfz17_3 := blk_frozen BK103.out 3
                    have hfz17_4 := blk_frozen BK103.out 4
                    have hfz17_5 := blk_frozen BK103.out 5
                    have hfz17_6 := blk_frozen BK103.out 6
                    go_wp2
                    go_meet
                    case rel => exact ⟨_, (true), (by first | rfl | (simp; done) | (simp [*]; done)), H', ⟨by have := HJ1.out; have := HK2.out; first | omega | exact Nat.le_refl _⟩, ⟨by (with_reducible repeat (first | refine blk_drewN ?_ _ | refine blk_drew ?_ | refine blk_alloc ?_ _)); refine blk_far ?_ NB101_103.out _; (with_reducible repeat (first | refine blk_drewN ?_ _ | refine blk_drew ?_ | refine blk_alloc ?_ _)); refine blk_far ?_ NB101_103.out _; (with_reducible repeat (first | refine blk_drewN ?_ _ | refine blk_drew ?_ | refine blk_alloc ?_ _)); refine blk_far ?_ NB101_103.out _; (with_reducible repeat (first | refine blk_drewN ?_ _ | refine blk_drew ?_ | refine blk_alloc ?_ _)); refine blk_far ?_ NB101_103.out _; (with_reducible repeat (first | refine blk_drewN ?_ _ | refine blk_drew ?_ | refine blk_alloc ?_ _)); refine blk_far ?_ NB101_103.out _; (with_reducible repeat (first | refine blk_drewN ?_ _ | refine blk_drew ?_ | refine blk_alloc ?_ _)); refine blk_far ?_ NB101_103.out _; (with_reducible repeat (first | refine blk_drewN ?_ _ | refine blk_drew ?_ | refine blk_alloc ?_ _)); refine blk_far ?_ NB101_103.out _; (with_reducible repeat (first | refine blk_drewN ?_ _ | refine blk_drew ?_ | refine blk_alloc ?_ _)); exact BK101.out⟩, ⟨by (with_reducible repeat (first | refine blk_drewN ?_ _ | refine blk_drew ?_ | refine blk_alloc ?_ _)); refine blk_put (cs := #[.string ((rd_T33 l0_0 x3_2).f0), .string ((rd_T33 l0_0 x3_2).f1), .bool ((rd_T33 l0_0 x3_2).f2), .bool ((rd_T33 l0_0 x3_2).f3), .slice A102_4 ((rd_T33 l0_0 x3_2).f4).length c102_4, .slice A102_5 ((rd_T33 l0_0 x3_2).f5).length c102_5, .slice none 0 0]) ?_ 6 _ rfl; (with_reducible repeat (first | refine blk_drewN ?_ _ | refine blk_drew ?_ | refine blk_alloc ?_ _)); refine blk_put (cs := #[.string ((rd_T33 l0_0 x3_2).f0), .string ((rd_T33 l0_0 x3_2).f1), .bool ((rd_T33 l0_0 x3_2).f2), .bool ((rd_T33 l0_0 x3_2).f3), .slice A102_4 ((rd_T33 l0_0 x3_2).f4).length c102_4, .slice none 0 0, .slice none 0 0]) ?_ 5 _ rfl; (with_reducible repeat (first | refine blk_drewN ?_ _ | refine blk_drew ?_ | refine blk_alloc ?_ _)); refine blk_put (cs := #[.string ((rd_T33 l0_0 x3_2).f0), .string ((rd_T33 l0_0 x3_2).f1), .bool ((rd_T33 l0_0 x3_2).f2), .bool ((rd_T33 l0_0 x3_2).f3), .slice none 0 0, .slice none 0 0, .slice none 0 0]) ?_ 4 _ rfl; (with_reducible repeat (first | refine blk_drewN ?_ _ | refine blk_drew ?_ | refine blk_alloc ?_ _)); refine blk_put (cs := #[.string ((rd_T33 l0_0 x3_2).f0), .string ((rd_T33 l0_0 x3_2).f1), .bool ((rd_T33 l0_0 x3_2).f2), .bool false, .slice none 0 0, .slice none 0 0, .slice none 0 0]) ?_ 3 _ rfl; (with_reducible repeat (first | refine blk_drewN ?_ _ | refine blk_drew ?_ | refine blk_alloc ?_ _)); refine blk_put (cs := #[.string ((rd_T33 l0_0 x3_2).f0), .string ((rd_T33 l0_0 x3_2).f1), .bool false, .bool false, .slice none 0 0, .slice none 0 0, .slice none 0 0]) ?_ 2 _ rfl; (with_reducible repeat (first | refine blk_drewN ?_ _ | refine blk_drew ?_ | refine blk_alloc ?_ _)); refine blk_put (cs := #[.string ((rd_T33 l0_0 x3_2).f0), .string (⟨#[]⟩ : ByteArray), .bool false, .bool false, .slice none 0 0, .slice none 0 0, .slice none 0 0]) ?_ 1 _ rfl; (with_reducible repeat (first | refine blk_drewN ?_ _ | refine blk_drew ?_ | refine blk_alloc ?_ _)); refine blk_put (cs := #[.string (⟨#[]⟩ : ByteArray), .string (⟨#[]⟩ : ByteArray), .bool false, .bool false, .slice none 0 0, .slice none 0 0, .slice none 0 0]) ?_ 0 _ rfl; (with_reducible repeat (first | refine blk_drewN ?_ _ | refine blk_drew ?_ | refine blk_alloc ?_ _)); exact BK103.out⟩, ⟨by repeat (first | (with_reducible first | exact HB.out | apply below_alloc | apply pw_below_drewN | apply below_drew1 | refine below_set ?_ GE101.out | refine below_set ?_ GE103.out) | exact HB.out)⟩⟩
                  · rw [if_neg c15] at H
                    have c15b0 : decide (40 < (((rd_T33 l0_0 x3_2).f4).length : Int)) = false := decide_eq_false c15
                    have c15b1 : decide (40 < ((rd_T33 l0_0 x3_2).f4).length) = false := decide_eq_false (by omega)
                    clear c15
                    (first | rw [c15b0] | rw [c15b1] | (simp only [i64_w, i32_w]; rw [c15b0]) | skip)
                    by_cases c18 : (((rd_T33 l0_0 x3_2).f5).length : Int) > 40
                    · rw [if_pos c18] at H
                      have c18b0 : decide (40 < (((rd_T33 l0_0 x3_2).f5).length : Int)) = true := decide_eq_true c18
                      have c18b1 : decide (40 < ((rd_T33 l0_0 x3_2).f5).length) = true := decide_eq_true (by omega)
                      clear c18
                      have H' := Aside0.mk H
                      clear H
                      have hnb19 := NB103_101.out
                      have hnc19 := NB101_103.out
                      have hcz20_0 : w12.cell? ⟨gb103, 0, none⟩ = some (.string (⟨#[]⟩ : ByteArray)) := (blk_cell BK103.out 0).trans rfl
                      have hcz20_1 : w12.cell? ⟨gb103, 1, none⟩ = some (.string (⟨#[]⟩ : ByteArray)) := (blk_cell BK103.out 1).trans rfl
                      have hcz20_2 : w12.cell? ⟨gb103, 2, none⟩ = some (.bool false) := (blk_cell BK103.out 2).trans rfl
                      have hcz20_3 : w12.cell? ⟨gb103, 3, none⟩ = some (.bool false) := (blk_cell BK103.out 3).trans rfl
                      have hcz20_4 : w12.cell? ⟨gb103, 4, none⟩ = some (.slice none 0 0) := (blk_cell BK103.out 4).trans rfl
                      have hcz20_5 : w12.cell? ⟨gb103, 5, none⟩ = some (.slice none 0 0) := (blk_cell BK103.out 5).trans rfl
                      have hcz20_6 : w12.cell? ⟨gb103, 6, none⟩ = some (.slice none 0 0) := (blk_cell BK103.out 6).trans rfl
                      have hfz20_0 := blk_frozen BK103.out 0
                      have hfz20_1 := blk_frozen BK103.out 1
                      have hfz20_2 := blk_frozen BK103.out 2
                      have hfz20_3 := blk_frozen BK103.out 3
                      have hfz20_4 := blk_frozen BK103.out 4
                      have hfz20_5 := blk_frozen BK103.out 5
                      have hfz20_6 := blk_frozen BK103.out 6
                      go_wp2
                      go_meet
                      case rel => exact ⟨_, (true), (by first | rfl | (simp; done) | (simp [*]; done)), H', ⟨by have := HJ1.out; have := HK2.out; first | omega | exact Nat.le_refl _⟩, ⟨by (with_reducible repeat (first | refine blk_drewN ?_ _ | refine blk_drew ?_ | refine blk_alloc ?_ _)); refine blk_far ?_ NB101_103.out _; (with_reducible repeat (first | refine blk_drewN ?_ _ | refine blk_drew ?_ | refine blk_alloc ?_ _)); refine blk_far ?_ NB101_103.out _; (with_reducible repeat (first | refine blk_drewN ?_ _ | refine blk_drew ?_ | refine blk_alloc ?_ _)); refine blk_far ?_ NB101_103.out _; (with_reducible repeat (first | refine blk_drewN ?_ _ | refine blk_drew ?_ | refine blk_alloc ?_ _)); refine blk_far ?_ NB101_103.out _; (with_reducible repeat (first | refine blk_drewN ?_ _ | refine blk_drew ?_ | refine blk_alloc ?_ _)); refine blk_far ?_ NB101_103.out _; (with_reducible repeat (first | refine blk_drewN ?_ _ | refine blk_drew ?_ | refine blk_alloc ?_ _)); refine blk_far ?_ NB101_103.out _; (with_reducible repeat (first | refine blk_drewN ?_ _ | refine blk_drew ?_ | refine blk_alloc ?_ _)); refine blk_far ?_ NB101_103.out _; (with_reducible repeat (first | refine blk_drewN ?_ _ | refine blk_drew ?_ | refine blk_alloc ?_ _)); exact BK101.out⟩, ⟨by (with_reducible repeat (first | refine blk_drewN ?_ _ | refine blk_drew ?_ | refine blk_alloc ?_ _)); refine blk_put (cs := #[.string ((rd_T33 l0_0 x3_2).f0), .string ((rd_T33 l0_0 x3_2).f1), .bool ((rd_T33 l0_0 x3_2).f2), .bool ((rd_T33 l0_0 x3_2).f3), .slice A102_4 ((rd_T33 l0_0 x3_2).f4).length c102_4, .slice A102_5 ((rd_T33 l0_0 x3_2).f5).length c102_5, .slice none 0 0]) ?_ 6 _ rfl; (with_reducible repeat (first | refine blk_drewN ?_ _ | refine blk_drew ?_ | refine blk_alloc ?_ _)); refine blk_put (cs := #[.string ((rd_T33 l0_0 x3_2).f0), .string ((rd_T33 l0_0 x3_2).f1), .bool ((rd_T33 l0_0 x3_2).f2), .bool ((rd_T33 l0_0 x3_2).f3), .slice A102_4 ((rd_T33 l0_0 x3_2).f4).length c102_4, .slice none 0 0, .slice none 0 0]) ?_ 5 _ rfl; (with_reducible repeat (first | refine blk_drewN ?_ _ | refine blk_drew ?_ | refine blk_alloc ?_ _)); refine blk_put (cs := #[.string ((rd_T33 l0_0 x3_2).f0), .string ((rd_T33 l0_0 x3_2).f1), .bool ((rd_T33 l0_0 x3_2).f2), .bool ((rd_T33 l0_0 x3_2).f3), .slice none 0 0, .slice none 0 0, .slice none 0 0]) ?_ 4 _ rfl; (with_reducible repeat (first | refine blk_drewN ?_ _ | refine blk_drew ?_ | refine blk_alloc ?_ _)); refine blk_put (cs := #[.string ((rd_T33 l0_0 x3_2).f0), .string ((rd_T33 l0_0 x3_2).f1), .bool ((rd_T33 l0_0 x3_2).f2), .bool false, .slice none 0 0, .slice none 0 0, .slice none 0 0]) ?_ 3 _ rfl; (with_reducible repeat (first | refine blk_drewN ?_ _ | refine blk_drew ?_ | refine blk_alloc ?_ _)); refine blk_put (cs := #[.string ((rd_T33 l0_0 x3_2).f0), .string ((rd_T33 l0_0 x3_2).f1), .bool false, .bool false, .slice none 0 0, .slice none 0 0, .slice none 0 0]) ?_ 2 _ rfl; (with_reducible repeat (first | refine blk_drewN ?_ _ | refine blk_drew ?_ | refine blk_alloc ?_ _)); refine blk_put (cs := #[.string ((rd_T33 l0_0 x3_2).f0), .string (⟨#[]⟩ : ByteArray), .bool false, .bool false, .slice none 0 0, .slice none 0 0, .slice none 0 0]) ?_ 1 _ rfl; (with_reducible repeat (first | refine blk_drewN ?_ _ | refine blk_drew ?_ | refine blk_alloc ?_ _)); refine blk_put (cs := #[.string (⟨#[]⟩ : ByteArray), .string (⟨#[]⟩ : ByteArray), .bool false, .bool false, .slice none 0 0, .slice none 0 0, .slice none 0 0]) ?_ 0 _ rfl; (with_reducible repeat (first | refine blk_drewN ?_ _ | refine blk_drew ?_ | refine blk_alloc ?_ _)); exact BK103.out⟩, ⟨by repeat (first | (with_reducible first | exact HB.out | apply below_alloc | apply pw_below_drewN | apply below_drew1 | refine below_set ?_ GE101.out | refine below_set ?_ GE103.out) | exact HB.out)⟩⟩
                    · rw [if_neg c18] at H
                      have c18b0 : decide (40 < (((rd_T33 l0_0 x3_2).f5).length : Int)) = false := decide_eq_false c18
                      have c18b1 : decide (40 < ((rd_T33 l0_0 x3_2).f5).length) = false := decide_eq_false (by omega)
                      clear c18
                      by_cases c21 : (((rd_T33 l0_0 x3_2).f6).length : Int) > 40
                      · rw [if_pos c21] at H
                        have c21b0 : decide (40 < (((rd_T33 l0_0 x3_2).f6).length : Int)) = true := decide_eq_true c21
                        have c21b1 : decide (40 < ((rd_T33 l0_0 x3_2).f6).length) = true := decide_eq_true (by omega)
                        clear c21
                        have H' := Aside0.mk H
                        clear H
                        have hnb22 := NB103_101.out
                        have hnc22 := NB101_103.out
                        have hcz23_0 : w12.cell? ⟨gb103, 0, none⟩ = some (.string (⟨#[]⟩ : ByteArray)) := (blk_cell BK103.out 0).trans rfl
                        have hcz23_1 : w12.cell? ⟨gb103, 1, none⟩ = some (.string (⟨#[]⟩ : ByteArray)) := (blk_cell BK103.out 1).trans rfl
                        have hcz23_2 : w12.cell? ⟨gb103, 2, none⟩ = some (.bool false) := (blk_cell BK103.out 2).trans rfl
                        have hcz23_3 : w12.cell? ⟨gb103, 3, none⟩ = some (.bool false) := (blk_cell BK103.out 3).trans rfl
                        have hcz23_4 : w12.cell? ⟨gb103, 4, none⟩ = some (.slice none 0 0) := (blk_cell BK103.out 4).trans rfl
                        have hcz23_5 : w12.cell? ⟨gb103, 5, none⟩ = some (.slice none 0 0) := (blk_cell BK103.out 5).trans rfl
                        have hcz23_6 : w12.cell? ⟨gb103, 6, none⟩ = some (.slice none 0 0) := (blk_cell BK103.out 6).trans rfl
                        have hfz23_0 := blk_frozen BK103.out 0
                        have hfz23_1 := blk_frozen BK103.out 1
                        have hfz23_2 := blk_frozen BK103.out 2
                        have hfz23_3 := blk_frozen BK103.out 3
                        have hfz23_4 := blk_frozen BK103.out 4
                        have hfz23_5 := blk_frozen BK103.out 5
                        have hfz23_6 := blk_frozen BK103.out 6
                        go_wp2
                        go_meet
                        case rel => exact ⟨_, (true), (by first | rfl | (simp; done) | (simp [*]; done)), H', ⟨by have := HJ1.out; have := HK2.out; first | omega | exact Nat.le_refl _⟩, ⟨by (with_reducible repeat (first | refine blk_drewN ?_ _ | refine blk_drew ?_ | refine blk_alloc ?_ _)); refine blk_far ?_ NB101_103.out _; (with_reducible repeat (first | refine blk_drewN ?_ _ | refine blk_drew ?_ | refine blk_alloc ?_ _)); refine blk_far ?_ NB101_103.out _; (with_reducible repeat (first | refine blk_drewN ?_ _ | refine blk_drew ?_ | refine blk_alloc ?_ _)); refine blk_far ?_ NB101_103.out _; (with_reducible repeat (first | refine blk_drewN ?_ _ | refine blk_drew ?_ | refine blk_alloc ?_ _)); refine blk_far ?_ NB101_103.out _; (with_reducible repeat (first | refine blk_drewN ?_ _ | refine blk_drew ?_ | refine blk_alloc ?_ _)); refine blk_far ?_ NB101_103.out _; (with_reducible repeat (first | refine blk_drewN ?_ _ | refine blk_drew ?_ | refine blk_alloc ?_ _)); refine blk_far ?_ NB101_103.out _; (with_reducible repeat (first | refine blk_drewN ?_ _ | refine blk_drew ?_ | refine blk_alloc ?_ _)); refine blk_far ?_ NB101_103.out _; (with_reducible repeat (first | refine blk_drewN ?_ _ | refine blk_drew ?_ | refine blk_alloc ?_ _)); exact BK101.out⟩, ⟨by (with_reducible repeat (first | refine blk_drewN ?_ _ | refine blk_drew ?_ | refine blk_alloc ?_ _)); refine blk_put (cs := #[.string ((rd_T33 l0_0 x3_2).f0), .string ((rd_T33 l0_0 x3_2).f1), .bool ((rd_T33 l0_0 x3_2).f2), .bool ((rd_T33 l0_0 x3_2).f3), .slice A102_4 ((rd_T33 l0_0 x3_2).f4).length c102_4, .slice A102_5 ((rd_T33 l0_0 x3_2).f5).length c102_5, .slice none 0 0]) ?_ 6 _ rfl; (with_reducible repeat (first | refine blk_drewN ?_ _ | refine blk_drew ?_ | refine blk_alloc ?_ _)); refine blk_put (cs := #[.string ((rd_T33 l0_0 x3_2).f0), .string ((rd_T33 l0_0 x3_2).f1), .bool ((rd_T33 l0_0 x3_2).f2), .bool ((rd_T33 l0_0 x3_2).f3), .slice A102_4 ((rd_T33 l0_0 x3_2).f4).length c102_4, .slice none 0 0, .slice none 0 0]) ?_ 5 _ rfl; (with_reducible repeat (first | refine blk_drewN ?_ _ | refine blk_drew ?_ | refine blk_alloc ?_ _)); refine blk_put (cs := #[.string ((rd_T33 l0_0 x3_2).f0), .string ((rd_T33 l0_0 x3_2).f1), .bool ((rd_T33 l0_0 x3_2).f2), .bool ((rd_T33 l0_0 x3_2).f3), .slice none 0 0, .slice none 0 0, .slice none 0 0]) ?_ 4 _ rfl; (with_reducible repeat (first | refine blk_drewN ?_ _ | refine blk_drew ?_ | refine blk_alloc ?_ _)); refine blk_put (cs := #[.string ((rd_T33 l0_0 x3_2).f0), .string ((rd_T33 l0_0 x3_2).f1), .bool ((rd_T33 l0_0 x3_2).f2), .bool false, .slice none 0 0, .slice none 0 0, .slice none 0 0]) ?_ 3 _ rfl; (with_reducible repeat (first | refine blk_drewN ?_ _ | refine blk_drew ?_ | refine blk_alloc ?_ _)); refine blk_put (cs := #[.string ((rd_T33 l0_0 x3_2).f0), .string ((rd_T33 l0_0 x3_2).f1), .bool false, .bool false, .slice none 0 0, .slice none 0 0, .slice none 0 0]) ?_ 2 _ rfl; (with_reducible repeat (first | refine blk_drewN ?_ _ | refine blk_drew ?_ | refine blk_alloc ?_ _)); refine blk_put (cs := #[.string ((rd_T33 l0_0 x3_2).f0), .string (⟨#[]⟩ : ByteArray), .bool false, .bool false, .slice none 0 0, .slice none 0 0, .slice none 0 0]) ?_ 1 _ rfl; (with_reducible repeat (first | refine blk_drewN ?_ _ | refine blk_drew ?_ | refine blk_alloc ?_ _)); refine blk_put (cs := #[.string (⟨#[]⟩ : ByteArray), .string (⟨#[]⟩ : ByteArray), .bool false, .bool false, .slice none 0 0, .slice none 0 0, .slice none 0 0]) ?_ 0 _ rfl; (with_reducible repeat (first | refine blk_drewN ?_ _ | refine blk_drew ?_ | refine blk_alloc ?_ _)); exact BK103.out⟩, ⟨by repeat (first | (with_reducible first | exact HB.out | apply below_alloc | apply pw_below_drewN | apply below_drew1 | refine below_set ?_ GE101.out | refine below_set ?_ GE103.out) | exact HB.out)⟩⟩
                      · rw [if_neg c21] at H
                        have c21b0 : decide (40 < (((rd_T33 l0_0 x3_2).f6).length : Int)) = false := decide_eq_false c21
                        have c21b1 : decide (40 < ((rd_T33 l0_0 x3_2).f6).length) = false := decide_eq_false (by omega)
                        clear c21
                        by_cases c24 : (((rd_T33 l0_0 x3_2).f0).size : Int) > 300
                        · rw [if_pos c24] at H
                          have c24b0 : decide (300 < (((rd_T33 l0_0 x3_2).f0).size : Int)) = true := decide_eq_true c24
                          have c24b1 : decide (300 < ((rd_T33 l0_0 x3_2).f0).size) = true := decide_eq_true (by omega)
                          clear c24
                          have H' := Aside0.mk H
                          clear H
                          have hnb25 := NB103_101.out
                          have hnc25 := NB101_103.out
                          have hcz26_0 : w12.cell? ⟨gb103, 0, none⟩ = some (.string (⟨#[]⟩ : ByteArray)) := (blk_cell BK103.out 0).trans rfl
                          have hcz26_1 : w12.cell? ⟨gb103, 1, none⟩ = some (.string (⟨#[]⟩ : ByteArray)) := (blk_cell BK103.out 1).trans rfl
                          have hcz26_2 : w12.cell? ⟨gb103, 2, none⟩ = some (.bool false) := (blk_cell BK103.out 2).trans rfl
                          have hcz26_3 : w12.cell? ⟨gb103, 3, none⟩ = some (.bool false) := (blk_cell BK103.out 3).trans rfl
                          have hcz26_4 : w12.cell? ⟨gb103, 4, none⟩ = some (.slice none 0 0) := (blk_cell BK103.out 4).trans rfl
                          have hcz26_5 : w12.cell? ⟨gb103, 5, none⟩ = some (.slice none 0 0) := (blk_cell BK103.out 5).trans rfl
                          have hcz26_6 : w12.cell? ⟨gb103, 6, none⟩ = some (.slice none 0 0) := (blk_cell BK103.out 6).trans rfl
                          have hfz26_0 := blk_frozen BK103.out 0
                          have hfz26_1 := blk_frozen BK103.out 1
                          have hfz26_2 := blk_frozen BK103.out 2
                          have hfz26_3 := blk_frozen BK103.out 3
                          have hfz26_4 := blk_frozen BK103.out 4
                          have hfz26_5 := blk_frozen BK103.out 5
                          have hfz26_6 := blk_frozen BK103.out 6
                          go_wp2
                          go_meet
                          case rel => exact ⟨_, (true), (by first | rfl | (simp; done) | (simp [*]; done)), H', ⟨by have := HJ1.out; have := HK2.out; first | omega | exact Nat.le_refl _⟩, ⟨by (with_reducible repeat (first | refine blk_drewN ?_ _ | refine blk_drew ?_ | refine blk_alloc ?_ _)); refine blk_far ?_ NB101_103.out _; (with_reducible repeat (first | refine blk_drewN ?_ _ | refine blk_drew ?_ | refine blk_alloc ?_ _)); refine blk_far ?_ NB101_103.out _; (with_reducible repeat (first | refine blk_drewN ?_ _ | refine blk_drew ?_ | refine blk_alloc ?_ _)); refine blk_far ?_ NB101_103.out _; (with_reducible repeat (first | refine blk_drewN ?_ _ | refine blk_drew ?_ | refine blk_alloc ?_ _)); refine blk_far ?_ NB101_103.out _; (with_reducible repeat (first | refine blk_drewN ?_ _ | refine blk_drew ?_ | refine blk_alloc ?_ _)); refine blk_far ?_ NB101_103.out _; (with_reducible repeat (first | refine blk_drewN ?_ _ | refine blk_drew ?_ | refine blk_alloc ?_ _)); refine blk_far ?_ NB101_103.out _; (with_reducible repeat (first | refine blk_drewN ?_ _ | refine blk_drew ?_ | refine blk_alloc ?_ _)); refine blk_far ?_ NB101_103.out _; (with_reducible repeat (first | refine blk_drewN ?_ _ | refine blk_drew ?_ | refine blk_alloc ?_ _)); exact BK101.out⟩, ⟨by (with_reducible repeat (first | refine blk_drewN ?_ _ | refine blk_drew ?_ | refine blk_alloc ?_ _)); refine blk_put (cs := #[.string ((rd_T33 l0_0 x3_2).f0), .string ((rd_T33 l0_0 x3_2).f1), .bool ((rd_T33 l0_0 x3_2).f2), .bool ((rd_T33 l0_0 x3_2).f3), .slice A102_4 ((rd_T33 l0_0 x3_2).f4).length c102_4, .slice A102_5 ((rd_T33 l0_0 x3_2).f5).length c102_5, .slice none 0 0]) ?_ 6 _ rfl; (with_reducible repeat (first | refine blk_drewN ?_ _ | refine blk_drew ?_ | refine blk_alloc ?_ _)); refine blk_put (cs := #[.string ((rd_T33 l0_0 x3_2).f0), .string ((rd_T33 l0_0 x3_2).f1), .bool ((rd_T33 l0_0 x3_2).f2), .bool ((rd_T33 l0_0 x3_2).f3), .slice A102_4 ((rd_T33 l0_0 x3_2).f4).length c102_4, .slice none 0 0, .slice none 0 0]) ?_ 5 _ rfl; (with_reducible repeat (first | refine blk_drewN ?_ _ | refine blk_drew ?_ | refine blk_alloc ?_ _)); refine blk_put (cs := #[.string ((rd_T33 l0_0 x3_2).f0), .string ((rd_T33 l0_0 x3_2).f1), .bool ((rd_T33 l0_0 x3_2).f2), .bool ((rd_T33 l0_0 x3_2).f3), .slice none 0 0, .slice none 0 0, .slice none 0 0]) ?_ 4 _ rfl; (with_reducible repeat (first | refine blk_drewN ?_ _ | refine blk_drew ?_ | refine blk_alloc ?_ _)); refine blk_put (cs := #[.string ((rd_T33 l0_0 x3_2).f0), .string ((rd_T33 l0_0 x3_2).f1), .bool ((rd_T33 l0_0 x3_2).f2), .bool false, .slice none 0 0, .slice none 0 0, .slice none 0 0]) ?_ 3 _ rfl; (with_reducible repeat (first | refine blk_drewN ?_ _ | refine blk_drew ?_ | refine blk_alloc ?_ _)); refine blk_put (cs := #[.string ((rd_T33 l0_0 x3_2).f0), .string ((rd_T33 l0_0 x3_2).f1), .bool false, .bool false, .slice none 0 0, .slice none 0 0, .slice none 0 0]) ?_ 2 _ rfl; (with_reducible repeat (first | refine blk_drewN ?_ _ | refine blk_drew ?_ | refine blk_alloc ?_ _)); refine blk_put (cs := #[.string ((rd_T33 l0_0 x3_2).f0), .string (⟨#[]⟩ : ByteArray), .bool false, .bool false, .slice none 0 0, .slice none 0 0, .slice none 0 0]) ?_ 1 _ rfl; (with_reducible repeat (first | refine blk_drewN ?_ _ | refine blk_drew ?_ | refine blk_alloc ?_ _)); refine blk_put (cs := #[.string (⟨#[]⟩ : ByteArray), .string (⟨#[]⟩ : ByteArray), .bool false, .bool false, .slice none 0 0, .slice none 0 0, .slice none 0 0]) ?_ 0 _ rfl; (with_reducible repeat (first | refine blk_drewN ?_ _ | refine blk_drew ?_ | refine blk_alloc ?_ _)); exact BK103.out⟩, ⟨by repeat (first | (with_reducible first | exact HB.out | apply below_alloc | apply pw_below_drewN | apply below_drew1 | refine below_set ?_ GE101.out | refine below_set ?_ GE103.out) | exact HB.out)⟩⟩
                        · rw [if_neg c24] at H
                          have c24b0 : decide (300 < (((rd_T33 l0_0 x3_2).f0).size : Int)) = false := decide_eq_false c24
                          have c24b1 : decide (300 < ((rd_T33 l0_0 x3_2).f0).size) = false := decide_eq_false (by omega)
                          clear c24
                          have H' := Aside0.mk H
                          clear H
                          have hnb27 := NB103_101.out
                          have hnc27 := NB101_103.out
                          have hcz28_0 : w12.cell? ⟨gb103, 0, none⟩ = some (.string (⟨#[]⟩ : ByteArray)) := (blk_cell BK103.out 0).trans rfl
                          have hcz28_1 : w12.cell? ⟨gb103, 1, none⟩ = some (.string (⟨#[]⟩ : ByteArray)) := (blk_cell BK103.out 1).trans rfl
                          have hcz28_2 : w12.cell? ⟨gb103, 2, none⟩ = some (.bool false) := (blk_cell BK103.out 2).trans rfl
                          have hcz28_3 : w12.cell? ⟨gb103, 3, none⟩ = some (.bool false) := (blk_cell BK103.out 3).trans rfl
                          have hcz28_4 : w12.cell? ⟨gb103, 4, none⟩ = some (.slice none 0 0) := (blk_cell BK103.out 4).trans rfl
                          have hcz28_5 : w12.cell? ⟨gb103, 5, none⟩ = some (.slice none 0 0) := (blk_cell BK103.out 5).trans rfl
                          have hcz28_6 : w12.cell? ⟨gb103, 6, none⟩ = some (.slice none 0 0) := (blk_cell BK103.out 6).trans rfl
                          have hfz28_0 := blk_frozen BK103.out 0
                          have hfz28_1 := blk_frozen BK103.out 1
                          have hfz28_2 := blk_frozen BK103.out 2
                          have hfz28_3 := blk_frozen BK103.out 3
                          have hfz28_4 := blk_frozen BK103.out 4
                          have hfz28_5 := blk_frozen BK103.out 5
                          have hfz28_6 := blk_frozen BK103.out 6
                          go_wp2
                          go_meet
                          case rel => exact ⟨_, (decide ((((rd_T33 l0_0 x3_2).f1).size : Int) > 300)), (by first | rfl | (simp; done) | (simp [*]; done)), H', ⟨by have := HJ1.out; have := HK2.out; first | omega | exact Nat.le_refl _⟩, ⟨by (with_reducible repeat (first | refine blk_drewN ?_ _ | refine blk_drew ?_ | refine blk_alloc ?_ _)); refine blk_far ?_ NB101_103.out _; (with_reducible repeat (first | refine blk_drewN ?_ _ | refine blk_drew ?_ | refine blk_alloc ?_ _)); refine blk_far ?_ NB101_103.out _; (with_reducible repeat (first | refine blk_drewN ?_ _ | refine blk_drew ?_ | refine blk_alloc ?_ _)); refine blk_far ?_ NB101_103.out _; (with_reducible repeat (first | refine blk_drewN ?_ _ | refine blk_drew ?_ | refine blk_alloc ?_ _)); refine blk_far ?_ NB101_103.out _; (with_reducible repeat (first | refine blk_drewN ?_ _ | refine blk_drew ?_ | refine blk_alloc ?_ _)); refine blk_far ?_ NB101_103.out _; (with_reducible repeat (first | refine blk_drewN ?_ _ | refine blk_drew ?_ | refine blk_alloc ?_ _)); refine blk_far ?_ NB101_103.out _; (with_reducible repeat (first | refine blk_drewN ?_ _ | refine blk_drew ?_ | refine blk_alloc ?_ _)); refine blk_far ?_ NB101_103.out _; (with_reducible repeat (first | refine blk_drewN ?_ _ | refine blk_drew ?_ | refine blk_alloc ?_ _)); exact BK101.out⟩, ⟨by (with_reducible repeat (first | refine blk_drewN ?_ _ | refine blk_drew ?_ | refine blk_alloc ?_ _)); refine blk_put (cs := #[.string ((rd_T33 l0_0 x3_2).f0), .string ((rd_T33 l0_0 x3_2).f1), .bool ((rd_T33 l0_0 x3_2).f2), .bool ((rd_T33 l0_0 x3_2).f3), .slice A102_4 ((rd_T33 l0_0 x3_2).f4).length c102_4, .slice A102_5 ((rd_T33 l0_0 x3_2).f5).length c102_5, .slice none 0 0]) ?_ 6 _ rfl; (with_reducible repeat (first | refine blk_drewN ?_ _ | refine blk_drew ?_ | refine blk_alloc ?_ _)); refine blk_put (cs := #[.string ((rd_T33 l0_0 x3_2).f0), .string ((rd_T33 l0_0 x3_2).f1), .bool ((rd_T33 l0_0 x3_2).f2), .bool ((rd_T33 l0_0 x3_2).f3), .slice A102_4 ((rd_T33 l0_0 x3_2).f4).length c102_4, .slice none 0 0, .slice none 0 0]) ?_ 5 _ rfl; (with_reducible repeat (first | refine blk_drewN ?_ _ | refine blk_drew ?_ | refine blk_alloc ?_ _)); refine blk_put (cs := #[.string ((rd_T33 l0_0 x3_2).f0), .string ((rd_T33 l0_0 x3_2).f1), .bool ((rd_T33 l0_0 x3_2).f2), .bool ((rd_T33 l0_0 x3_2).f3), .slice none 0 0, .slice none 0 0, .slice none 0 0]) ?_ 4 _ rfl; (with_reducible repeat (first | refine blk_drewN ?_ _ | refine blk_drew ?_ | refine blk_alloc ?_ _)); refine blk_put (cs := #[.string ((rd_T33 l0_0 x3_2).f0), .string ((rd_T33 l0_0 x3_2).f1), .bool ((rd_T33 l0_0 x3_2).f2), .bool false, .slice none 0 0, .slice none 0 0, .slice none 0 0]) ?_ 3 _ rfl; (with_reducible repeat (first | refine blk_drewN ?_ _ | refine blk_drew ?_ | refine blk_alloc ?_ _)); refine blk_put (cs := #[.string ((rd_T33 l0_0 x3_2).f0), .string ((rd_T33 l0_0 x3_2).f1), .bool false, .bool false, .slice none 0 0, .slice none 0 0, .slice none 0 0]) ?_ 2 _ rfl; (with_reducible repeat (first | refine blk_drewN ?_ _ | refine blk_drew ?_ | refine blk_alloc ?_ _)); refine blk_put (cs := #[.string ((rd_T33 l0_0 x3_2).f0), .string (⟨#[]⟩ : ByteArray), .bool false, .bool false, .slice none 0 0, .slice none 0 0, .slice none 0 0]) ?_ 1 _ rfl; (with_reducible repeat (first | refine blk_drewN ?_ _ | refine blk_drew ?_ | refine blk_alloc ?_ _)); refine blk_put (cs := #[.string (⟨#[]⟩ : ByteArray), .string (⟨#[]⟩ : ByteArray), .bool false, .bool false, .slice none 0 0, .slice none 0 0, .slice none 0 0]) ?_ 0 _ rfl; (with_reducible repeat (first | refine blk_drewN ?_ _ | refine blk_drew ?_ | refine blk_alloc ?_ _)); exact BK103.out⟩, ⟨by repeat (first | (with_reducible first | exact HB.out | apply below_alloc | apply pw_below_drewN | apply below_drew1 | refine below_set ?_ GE101.out | refine below_set ?_ GE103.out) | exact HB.out)⟩⟩
                case rest =>
                  clear HC10
                  try clear c1
                  try clear p1
                  try clear q1
                  try clear hx1
                  try clear c2
                  try clear p2
                  try clear c4
                  try clear c4b0
                  try clear c4b1
                  try clear c7
                  try clear c8
                  try clear c8b0
                  try clear c9
                  try clear c9b0
                  try clear c10
                  try clear p10
                  try clear q10
                  try clear hx10
                  try clear c13
                  try clear c15
                  try clear c15b0
                  try clear c15b1
                  try clear c16
                  try clear c18
                  try clear c18b0
                  try clear c18b1
                  try clear c19
                  try clear c21
                  try clear c21b0
                  try clear c21b1
                  try clear c22
                  try clear c24
                  try clear c24b0
                  try clear c24b1
                  try clear c25
                  try clear c27
                  try clear hcz11_0
                  try clear hcz11_1
                  try clear hcz11_2
                  try clear hcz11_3
                  try clear hcz11_4
                  try clear hcz14_0
                  try clear hcz14_1
                  try clear hcz14_2
                  try clear hcz14_3
                  try clear hcz14_4
                  try clear hcz14_5
                  try clear hcz14_6
                  try clear hcz17_0
                  try clear hcz17_1
                  try clear hcz17_2
                  try clear hcz17_3
                  try clear hcz17_4
                  try clear hcz17_5
                  try clear hcz17_6
                  try clear hcz20_0
                  try clear hcz20_1
                  try clear hcz20_2
                  try clear hcz20_3
                  try clear hcz20_4
                  try clear hcz20_5
                  try clear hcz20_6
                  try clear hcz23_0
                  try clear hcz23_1
                  try clear hcz23_2
                  try clear hcz23_3
                  try clear hcz23_4
                  try clear hcz23_5
                  try clear hcz23_6
                  try clear hcz26_0
                  try clear hcz26_1
                  try clear hcz26_2
                  try clear hcz26_3
                  try clear hcz26_4
                  try clear hcz26_5
                  try clear hcz26_6
                  try clear hcz28_0
                  try clear hcz28_1
                  try clear hcz28_2
                  try clear hcz28_3
                  try clear hcz28_4
                  try clear hcz28_5
                  try clear hcz28_6
                  try clear hcz5_0
                  try clear hcz5_1
                  try clear hcz5_2
                  try clear hcz5_3
                  try clear hcz5_4
                  try clear hcz6_0
                  try clear hcz6_1
                  try clear hcz6_2
                  try clear hcz6_3
                  try clear hcz6_4
                  try clear hfz11_0
                  try clear hfz11_1
                  try clear hfz11_2
                  try clear hfz11_3
                  try clear hfz11_4
                  try clear hfz14_0
                  try clear hfz14_1
                  try clear hfz14_2
                  try clear hfz14_3
                  try clear hfz14_4
                  try clear hfz14_5
                  try clear hfz14_6
                  try clear hfz17_0
                  try clear hfz17_1
                  try clear hfz17_2
                  try clear hfz17_3
                  try clear hfz17_4
                  try clear hfz17_5
                  try clear hfz17_6
                  try clear hfz20_0
                  try clear hfz20_1
                  try clear hfz20_2
                  try clear hfz20_3
                  try clear hfz20_4
                  try clear hfz20_5
                  try clear hfz20_6
                  try clear hfz23_0
                  try clear hfz23_1
                  try clear hfz23_2
                  try clear hfz23_3
                  try clear hfz23_4
                  try clear hfz23_5
                  try clear hfz23_6
                  try clear hfz26_0
                  try clear hfz26_1
                  try clear hfz26_2
                  try clear hfz26_3
                  try clear hfz26_4
                  try clear hfz26_5
                  try clear hfz26_6
                  try clear hfz28_0
                  try clear hfz28_1
                  try clear hfz28_2
                  try clear hfz28_3
                  try clear hfz28_4
                  try clear hfz28_5
                  try clear hfz28_6
                  try clear hfz5_0
                  try clear hfz5_1
                  try clear hfz5_2
                  try clear hfz5_3
                  try clear hfz5_4
                  try clear hfz6_0
                  try clear hfz6_1
                  try clear hfz6_2
                  try clear hfz6_3
                  try clear hfz6_4
                  try clear hx102_0
                  try clear hx102_1
                  try clear hx102_2
                  try clear hx102_3
                  try clear hx102_4
                  try clear hx102_5
                  try clear hx102_6
                  try clear p102
                  try clear p2
                  try clear q102
                  obtain ⟨kq, x57_9, rfl, HA, HJ9, BK101, BK103, HB⟩ := hcut
                  cases kq with
                  | zero => exact absurd HA.out (by simp [secateurlaw08_Great.j2])
                  | succ kj9 =>
                    have H := HA.out
                    clear HA
                    simp only [secateurlaw08_Great.j2] at H
                    by_cases c29 : x57_9 = true
                    · subst c29
                      have H1 : (some true) = some r := by rw [if_pos rfl] at H; exact H
                      clear H
                      have H := H1
                      clear H1
                      obtain rfl := Option.some.inj H
                      go_wp2
                      go_ret
                      exact ⟨by first | rfl | (simp [errW_none, errW_some] <;> rfl) | (simp [*, errW_none, errW_some] <;> rfl), by repeat (first | (with_reducible first | exact HB.out | apply below_alloc | apply pw_below_drewN | apply below_drew1 | refine below_set ?_ GE101.out | refine below_set ?_ GE103.out) | exact HB.out)⟩
                    · replace c29 := Bool.eq_false_iff.mpr c29
                      subst c29
                      have H1 : (secateurlaw08_Great.l1 kj9 x3_2 0 l0_0 l0_1 a0_2 a0_3 a0_4 ((rd_T33 l0_0 x3_2).f0) ((rd_T33 l0_0 x3_2).f1) ((rd_T33 l0_0 x3_2).f2) ((rd_T33 l0_0 x3_2).f3) ((rd_T33 l0_0 x3_2).f4) ((rd_T33 l0_0 x3_2).f5) ((rd_T33 l0_0 x3_2).f6)) = some r := by rw [if_neg (show ¬ (false = true) by decide)] at H; exact H
                      clear H
                      have H := H1
                      clear H1
                      have H' := Aside0.mk H
                      clear H
                      go_wp2
                      go_loopg [5] kj9 (fun kq v5 w' => ∃ (x5_4 : Int), v5 = .int .i64 x5_4 ∧ Aside0 (secateurlaw08_Great.l1 kq x3_2 x5_4 l0_0 l0_1 a0_2 a0_3 a0_4 ((rd_T33 l0_0 x3_2).f0) ((rd_T33 l0_0 x3_2).f1) ((rd_T33 l0_0 x3_2).f2) ((rd_T33 l0_0 x3_2).f3) ((rd_T33 l0_0 x3_2).f4) ((rd_T33 l0_0 x3_2).f5) ((rd_T33 l0_0 x3_2).f6) = some r) ∧ Aside0 (kq ≤ kj9) ∧ Aside0 (w'.heap[gb101]? = some (.cells #[(.slice (some ad102) l0_0.length c0_0), (.slice A0_1 l0_1.length c0_1), .string a0_2, .string a0_3, .string a0_4] 27 (0, 0))) ∧ Aside0 (w'.heap[gb103]? = some (.cells #[.string ((rd_T33 l0_0 x3_2).f0), .string ((rd_T33 l0_0 x3_2).f1), .bool ((rd_T33 l0_0 x3_2).f2), .bool ((rd_T33 l0_0 x3_2).f3), (.slice A102_4 ((rd_T33 l0_0 x3_2).f4).length c102_4), (.slice A102_5 ((rd_T33 l0_0 x3_2).f5).length c102_5), (.slice A102_6 ((rd_T33 l0_0 x3_2).f6).length c102_6)] 33 (0, 0))) ∧ Aside0 (Below w.heap.size w w'))
                      case atStart => exact ⟨(0), (by first | rfl | (simp; done) | (simp [*]; done)), H', ⟨Nat.le_refl _⟩, ⟨by (with_reducible repeat (first | refine blk_drewN ?_ _ | refine blk_drew ?_ | refine blk_alloc ?_ _)); exact BK101.out⟩, ⟨by (with_reducible repeat (first | refine blk_drewN ?_ _ | refine blk_drew ?_ | refine blk_alloc ?_ _)); exact BK103.out⟩, ⟨by repeat (first | (with_reducible first | exact HB.out | apply below_alloc | apply pw_below_drewN | apply below_drew1 | refine below_set ?_ GE101.out | refine below_set ?_ GE103.out) | exact HB.out)⟩⟩
                      case round =>
                        clear H'
                        try clear c1
                        try clear p1
                        try clear q1
                        try clear hx1
                        try clear c2
                        try clear p2
                        try clear c4
                        try clear c4b0
                        try clear c4b1
                        try clear c7
                        try clear c8
                        try clear c8b0
                        try clear c9
                        try clear c9b0
                        try clear c10
                        try clear p10
                        try clear q10
                        try clear hx10
                        try clear c13
                        try clear c15
                        try clear c15b0
                        try clear c15b1
                        try clear c16
                        try clear c18
                        try clear c18b0
                        try clear c18b1
                        try clear c19
                        try clear c21
                        try clear c21b0
                        try clear c21b1
                        try clear c22
                        try clear c24
                        try clear c24b0
                        try clear c24b1
                        try clear c25
                        try clear c27
                        try clear c29
                        try clear hcz11_0
                        try clear hcz11_1
                        try clear hcz11_2
                        try clear hcz11_3
                        try clear hcz11_4
                        try clear hcz14_0
                        try clear hcz14_1
                        try clear hcz14_2
                        try clear hcz14_3
                        try clear hcz14_4
                        try clear hcz14_5
                        try clear hcz14_6
                        try clear hcz17_0
                        try clear hcz17_1
                        try clear hcz17_2
                        try clear hcz17_3
                        try clear hcz17_4
                        try clear hcz17_5
                        try clear hcz17_6
                        try clear hcz20_0
                        try clear hcz20_1
                        try clear hcz20_2
                        try clear hcz20_3
                        try clear hcz20_4
                        try clear hcz20_5
                        try clear hcz20_6
                        try clear hcz23_0
                        try clear hcz23_1
                        try clear hcz23_2
                        try clear hcz23_3
                        try clear hcz23_4
                        try clear hcz23_5
                        try clear hcz23_6
                        try clear hcz26_0
                        try clear hcz26_1
                        try clear hcz26_2
                        try clear hcz26_3
                        try clear hcz26_4
                        try clear hcz26_5
                        try clear hcz26_6
                        try clear hcz28_0
                        try clear hcz28_1
                        try clear hcz28_2
                        try clear hcz28_3
                        try clear hcz28_4
                        try clear hcz28_5
                        try clear hcz28_6
                        try clear hcz5_0
                        try clear hcz5_1
                        try clear hcz5_2
                        try clear hcz5_3
                        try clear hcz5_4
                        try clear hcz6_0
                        try clear hcz6_1
                        try clear hcz6_2
                        try clear hcz6_3
                        try clear hcz6_4
                        try clear hfz11_0
                        try clear hfz11_1
                        try clear hfz11_2
                        try clear hfz11_3
                        try clear hfz11_4
                        try clear hfz14_0
                        try clear hfz14_1
                        try clear hfz14_2
                        try clear hfz14_3
                        try clear hfz14_4
                        try clear hfz14_5
                        try clear hfz14_6
                        try clear hfz17_0
                        try clear hfz17_1
                        try clear hfz17_2
                        try clear hfz17_3
                        try clear hfz17_4
                        try clear hfz17_5
                        try clear hfz17_6
                        try clear hfz20_0
                        try clear hfz20_1
                        try clear hfz20_2
                        try clear hfz20_3
                        try clear hfz20_4
                        try clear hfz20_5
                        try clear hfz20_6
                        try clear hfz23_0
                        try clear hfz23_1
                        try clear hfz23_2
                        try clear hfz23_3
                        try clear hfz23_4
                        try clear hfz23_5
                        try clear hfz23_6
                        try clear hfz26_0
                        try clear hfz26_1
                        try clear hfz26_2
                        try clear hfz26_3
                        try clear hfz26_4
                        try clear hfz26_5
                        try clear hfz26_6
                        try clear hfz28_0
                        try clear hfz28_1
                        try clear hfz28_2
                        try clear hfz28_3
                        try clear hfz28_4
                        try clear hfz28_5
                        try clear hfz28_6
                        try clear hfz5_0
                        try clear hfz5_1
                        try clear hfz5_2
                        try clear hfz5_3
                        try clear hfz5_4
                        try clear hfz6_0
                        try clear hfz6_1
                        try clear hfz6_2
                        try clear hfz6_3
                        try clear hfz6_4
                        try clear hx102_0
                        try clear hx102_1
                        try clear hx102_2
                        try clear hx102_3
                        try clear hx102_4
                        try clear hx102_5
                        try clear hx102_6
                        try clear p1
                        try clear p10
                        try clear p102
                        try clear p2
                        try clear q1
                        try clear q10
                        try clear q102
                        obtain ⟨x5_4, rfl, HA, HK4, BK101, BK103, HB⟩ := hrel
                        cases gk with
                        | zero => exact absurd HA.out (by simp [secateurlaw08_Great.l1])
                        | succ k4 =>
                          have H := HA.out
                          clear HA
                          simp only [secateurlaw08_Great.l1] at H
                          by_cases c30 : x5_4 < (((rd_T33 l0_0 x3_2).f6).length : Int)
                          · rw [if_pos c30] at H
                            have c30b0 : decide (x5_4 < (((rd_T33 l0_0 x3_2).f6).length : Int)) = true := decide_eq_true c30
                            clear c30
                            by_cases c31 : 0 ≤ x5_4
                            · rw [if_pos c31] at H
                              have c31b0 : decide (0 ≤ x5_4) = true := decide_eq_true c31
                              clear c31
                              have HC32 := Aside0.mk H
                              clear H
                              have hnb33 := NB103_101.out
                              have hnc33 := NB101_103.out
                              have hcz34_0 : wr.cell? ⟨gb103, 0, none⟩ = some (.string ((rd_T33 l0_0 x3_2).f0)) := (blk_cell BK103.out 0).trans rfl
                              have hcz34_1 : wr.cell? ⟨gb103, 1, none⟩ = some (.string ((rd_T33 l0_0 x3_2).f1)) := (blk_cell BK103.out 1).trans rfl
                              have hcz34_2 : wr.cell? ⟨gb103, 2, none⟩ = some (.bool ((rd_T33 l0_0 x3_2).f2)) := (blk_cell BK103.out 2).trans rfl
                              have hcz34_3 : wr.cell? ⟨gb103, 3, none⟩ = some (.bool ((rd_T33 l0_0 x3_2).f3)) := (blk_cell BK103.out 3).trans rfl
                              have hcz34_4 : wr.cell? ⟨gb103, 4, none⟩ = some (.slice A102_4 ((rd_T33 l0_0 x3_2).f4).length c102_4) := (blk_cell BK103.out 4).trans rfl
                              have hcz34_5 : wr.cell? ⟨gb103, 5, none⟩ = some (.slice A102_5 ((rd_T33 l0_0 x3_2).f5).length c102_5) := (blk_cell BK103.out 5).trans rfl
                              have hcz34_6 : wr.cell? ⟨gb103, 6, none⟩ = some (.slice A102_6 ((rd_T33 l0_0 x3_2).f6).length c102_6) := (blk_cell BK103.out 6).trans rfl
                              have hfz34_0 := blk_frozen BK103.out 0
                              have hfz34_1 := blk_frozen BK103.out 1
                              have hfz34_2 := blk_frozen BK103.out 2
                              have hfz34_3 := blk_frozen BK103.out 3
                              have hfz34_4 := blk_frozen BK103.out 4
                              have hfz34_5 := blk_frozen BK103.out 5
                              have hfz34_6 := blk_frozen BK103.out 6
                              have p104 : 0 ≤ (x5_4 : Int) := of_decide_eq_true (by first | (with_reducible assumption) | assumption)
                              have q104 : x5_4 < (((rd_T33 l0_0 x3_2).f6).length : Int) := of_decide_eq_true (by first | (with_reducible assumption) | assumption)
                              obtain ⟨ad104, A104_5, c104_5, e104, hx104_0, hx104_1, hx104_2, hx104_3, hx104_4, hx104_5, hl104_5, hi104_5⟩ := at_T37 HR102_6.out x5_4 p104 q104
                              cases e104
                              replace hx104_0 := (HB.out.cell (World.block_lt_of_cell? w _ hx104_0)).trans hx104_0
                              replace hx104_1 := (HB.out.cell (World.block_lt_of_cell? w _ hx104_1)).trans hx104_1
                              replace hx104_2 := (HB.out.cell (World.block_lt_of_cell? w _ hx104_2)).trans hx104_2
                              replace hx104_3 := (HB.out.cell (World.block_lt_of_cell? w _ hx104_3)).trans hx104_3
                              replace hx104_4 := (HB.out.cell (World.block_lt_of_cell? w _ hx104_4)).trans hx104_4
                              replace hx104_5 := (HB.out.cell (World.block_lt_of_cell? w _ hx104_5)).trans hx104_5
                              have HR104_5 := Aside0.mk hi104_5
                              have HC104_5 := Aside0.mk hl104_5
                              clear hi104_5 hl104_5
                              replace p104 := eq_true p104
                              replace q104 := eq_true q104
                              go_upto_region 13 with (first | ((with_reducible refine gate_dst (N := 6) rfl ?_); (try (refine gate_guard (by rfl) ?_; dsimp only)); refine box_event ?hg (N := 6) ?hd (cs := #[.string (⟨#[]⟩ : ByteArray), .string (⟨#[]⟩ : ByteArray), .bool false, .bool false, .int .i64 0, .slice none 0 0]) (t := 37) ?hr ?_; (case hd => rfl); (case hg => rfl); (case hr => first | (go_simp; done) | (go_simp; rfl)); intro gb105 hg w35 hbox hb; have n0_ := Aside0.mk (blk_below (g := gb101) (o := .cells #[.slice (some ad102) l0_0.length c0_0, .slice A0_1 l0_1.length c0_1, .string a0_2, .string a0_3, .string a0_4] 27 (0, 0)) (by (with_reducible repeat (first | refine blk_drewN ?_ _ | refine blk_drew ?_ | refine blk_alloc ?_ _)); exact BK101.out) hb); have n1_ := Aside0.mk (blk_below (g := gb103) (o := .cells #[.string ((rd_T33 l0_0 x3_2).f0), .string ((rd_T33 l0_0 x3_2).f1), .bool ((rd_T33 l0_0 x3_2).f2), .bool ((rd_T33 l0_0 x3_2).f3), .slice A102_4 ((rd_T33 l0_0 x3_2).f4).length c102_4, .slice A102_5 ((rd_T33 l0_0 x3_2).f5).length c102_5, .slice (some ad104) ((rd_T33 l0_0 x3_2).f6).length c102_6] 33 (0, 0)) (by (with_reducible repeat (first | refine blk_drewN ?_ _ | refine blk_drew ?_ | refine blk_alloc ?_ _)); exact BK103.out) hb); have n2_ := Aside0.mk (below_step (by repeat (first | (with_reducible first | exact HB.out | apply below_alloc | apply pw_below_drewN | apply below_drew1 | refine below_set ?_ GE101.out | refine below_set ?_ GE103.out) | exact HB.out)) hb); have n3_ := Aside0.mk (hbox); have n4_ := Aside0.mk ((by rw [hg]; exact (below_size (by repeat (first | (with_reducible first | exact HB.out | apply below_alloc | apply pw_below_drewN | apply below_drew1 | refine below_set ?_ GE101.out | refine below_set ?_ GE103.out) | exact HB.out))) : w.heap.size ≤ gb105)); have n5_ := Aside0.mk ((by rw [hg]; exact (below_size (by repeat (first | (with_reducible first | exact HB.out | apply below_alloc | apply pw_below_drewN | apply below_drew1 | refine below_set ?_ GE101.out | refine below_set ?_ GE103.out) | exact HB.out))) : w.heap.size ≤ gb105)); have n6_ := Aside0.mk ((by rw [hg]; exact Nat.ne_of_lt (blk_lt (g := gb101) (o := .cells #[.slice (some ad102) l0_0.length c0_0, .slice A0_1 l0_1.length c0_1, .string a0_2, .string a0_3, .string a0_4] 27 (0, 0)) (by (with_reducible repeat (first | refine blk_drewN ?_ _ | refine blk_drew ?_ | refine blk_alloc ?_ _)); exact BK101.out)) : gb101 ≠ gb105)); have n7_ := Aside0.mk ((by rw [hg]; exact Nat.ne_of_gt (blk_lt (g := gb101) (o := .cells #[.slice (some ad102) l0_0.length c0_0, .slice A0_1 l0_1.length c0_1, .string a0_2, .string a0_3, .string a0_4] 27 (0, 0)) (by (with_reducible repeat (first | refine blk_drewN ?_ _ | refine blk_drew ?_ | refine blk_alloc ?_ _)); exact BK101.out)) : gb105 ≠ gb101)); have n8_ := Aside0.mk ((by rw [hg]; exact Nat.ne_of_lt (blk_lt (g := gb103) (o := .cells #[.string ((rd_T33 l0_0 x3_2).f0), .string ((rd_T33 l0_0 x3_2).f1), .bool ((rd_T33 l0_0 x3_2).f2), .bool ((rd_T33 l0_0 x3_2).f3), .slice A102_4 ((rd_T33 l0_0 x3_2).f4).length c102_4, .slice A102_5 ((rd_T33 l0_0 x3_2).f5).length c102_5, .slice (some ad104) ((rd_T33 l0_0 x3_2).f6).length c102_6] 33 (0, 0)) (by (with_reducible repeat (first | refine blk_drewN ?_ _ | refine blk_drew ?_ | refine blk_alloc ?_ _)); exact BK103.out)) : gb103 ≠ gb105)); have n9_ := Aside0.mk ((by rw [hg]; exact Nat.ne_of_gt (blk_lt (g := gb103) (o := .cells #[.string ((rd_T33 l0_0 x3_2).f0), .string ((rd_T33 l0_0 x3_2).f1), .bool ((rd_T33 l0_0 x3_2).f2), .bool ((rd_T33 l0_0 x3_2).f3), .slice A102_4 ((rd_T33 l0_0 x3_2).f4).length c102_4, .slice A102_5 ((rd_T33 l0_0 x3_2).f5).length c102_5, .slice (some ad104) ((rd_T33 l0_0 x3_2).f6).length c102_6] 33 (0, 0)) (by (with_reducible repeat (first | refine blk_drewN ?_ _ | refine blk_drew ?_ | refine blk_alloc ?_ _)); exact BK103.out)) : gb105 ≠ gb103)); clear BK101; clear BK103; clear HB; have BK101 := n0_; have BK103 := n1_; have HB := n2_; have BK105 := n3_; have GW105 := n4_; have GE105 := n5_; have NB101_105 := n6_; have NB105_101 := n7_; have NB103_105 := n8_; have NB105_103 := n9_; clear n0_ n1_ n2_ n3_ n4_ n5_ n6_ n7_ n8_ n9_; clear hb hbox hg; have hnb36 := NB105_101.out; have hnc36 := NB101_105.out; have hnb37 := NB105_103.out; have hnc37 := NB103_105.out; have hcz38_0 : w35.cell? ⟨gb105, 0, none⟩ = some (.string (⟨#[]⟩ : ByteArray)) := (blk_cell BK105.out 0).trans rfl; have hcz38_1 : w35.cell? ⟨gb105, 1, none⟩ = some (.string (⟨#[]⟩ : ByteArray)) := (blk_cell BK105.out 1).trans rfl; have hcz38_2 : w35.cell? ⟨gb105, 2, none⟩ = some (.bool false) := (blk_cell BK105.out 2).trans rfl; have hcz38_3 : w35.cell? ⟨gb105, 3, none⟩ = some (.bool false) := (blk_cell BK105.out 3).trans rfl; have hcz38_4 : w35.cell? ⟨gb105, 4, none⟩ = some (.int .i64 0) := (blk_cell BK105.out 4).trans rfl; have hcz38_5 : w35.cell? ⟨gb105, 5, none⟩ = some (.slice none 0 0) := (blk_cell BK105.out 5).trans rfl; have hfz38_0 := blk_frozen BK105.out 0; have hfz38_1 := blk_frozen BK105.out 1; have hfz38_2 := blk_frozen BK105.out 2; have hfz38_3 := blk_frozen BK105.out 3; have hfz38_4 := blk_frozen BK105.out 4; have hfz38_5 := blk_frozen BK105.out 5))
                              (try simp only [Act.put, List.setIfInBounds_toArray, List.set_cons_zero, List.set_cons_succ])
                              go_cut [85] (fun v85 wc => ∃ (kq : Nat) (x85_31 : Bool), v85 = .bool x85_31 ∧ Aside0 (secateurlaw08_Great.j4 kq x3_2 x5_4 x85_31 l0_0 l0_1 a0_2 a0_3 a0_4 ((rd_T33 l0_0 x3_2).f0) ((rd_T33 l0_0 x3_2).f1) ((rd_T33 l0_0 x3_2).f2) ((rd_T33 l0_0 x3_2).f3) ((rd_T33 l0_0 x3_2).f4) ((rd_T33 l0_0 x3_2).f5) ((rd_T33 l0_0 x3_2).f6) ((rd_T37 ((rd_T33 l0_0 x3_2).f6) x5_4).f0) ((rd_T37 ((rd_T33 l0_0 x3_2).f6) x5_4).f1) ((rd_T37 ((rd_T33 l0_0 x3_2).f6) x5_4).f2) ((rd_T37 ((rd_T33 l0_0 x3_2).f6) x5_4).f3) ((rd_T37 ((rd_T33 l0_0 x3_2).f6) x5_4).f4) ((rd_T37 ((rd_T33 l0_0 x3_2).f6) x5_4).f5) = some r) ∧ Aside0 (kq ≤ k4) ∧ Aside0 (wc.heap[gb101]? = some (.cells #[(.slice (some ad102) l0_0.length c0_0), (.slice A0_1 l0_1.length c0_1), .string a0_2, .string a0_3, .string a0_4] 27 (0, 0))) ∧ Aside0 (wc.heap[gb103]? = some (.cells #[.string ((rd_T33 l0_0 x3_2).f0), .string ((rd_T33 l0_0 x3_2).f1), .bool ((rd_T33 l0_0 x3_2).f2), .bool ((rd_T33 l0_0 x3_2).f3), (.slice A102_4 ((rd_T33 l0_0 x3_2).f4).length c102_4), (.slice A102_5 ((rd_T33 l0_0 x3_2).f5).length c102_5), (.slice (some ad104) ((rd_T33 l0_0 x3_2).f6).length c102_6)] 33 (0, 0))) ∧ Aside0 (wc.heap[gb105]? = some (.cells #[.string ((rd_T37 ((rd_T33 l0_0 x3_2).f6) x5_4).f0), .string ((rd_T37 ((rd_T33 l0_0 x3_2).f6) x5_4).f1), .bool ((rd_T37 ((rd_T33 l0_0 x3_2).f6) x5_4).f2), .bool ((rd_T37 ((rd_T33 l0_0 x3_2).f6) x5_4).f3), .int .i64 ((rd_T37 ((rd_T33 l0_0 x3_2).f6) x5_4).f4), (.slice A104_5 ((rd_T37 ((rd_T33 l0_0 x3_2).f6) x5_4).f5).length c104_5)] 37 (0, 0))) ∧ Aside0 (Below w.heap.size w wc))
                              case first =>
                                have H := HC32.out
                                clear HC32
                                by_cases c39 : (((rd_T37 ((rd_T33 l0_0 x3_2).f6) x5_4).f5).length : Int) > 300
                                · rw [if_pos c39] at H
                                  have c39b0 : decide (300 < (((rd_T37 ((rd_T33 l0_0 x3_2).f6) x5_4).f5).length : Int)) = true := decide_eq_true c39
                                  have c39b1 : decide (300 < ((rd_T37 ((rd_T33 l0_0 x3_2).f6) x5_4).f5).length) = true := decide_eq_true (by omega)
                                  clear c39
                                  (first | rw [c39b0] | rw [c39b1] | (simp only [i64_w, i32_w]; rw [c39b0]) | skip)
                                  have H' := Aside0.mk H
                                  clear H
                                  have hnb40 := NB105_101.out
                                  have hnc40 := NB101_105.out
                                  have hnb41 := NB105_103.out
                                  have hnc41 := NB103_105.out
                                  have hcz42_0 : w35.cell? ⟨gb105, 0, none⟩ = some (.string (⟨#[]⟩ : ByteArray)) := (blk_cell BK105.out 0).trans rfl
                                  have hcz42_1 : w35.cell? ⟨gb105, 1, none⟩ = some (.string (⟨#[]⟩ : ByteArray)) := (blk_cell BK105.out 1).trans rfl
                                  have hcz42_2 : w35.cell? ⟨gb105, 2, none⟩ = some (.bool false) := (blk_cell BK105.out 2).trans rfl
                                  have hcz42_3 : w35.cell? ⟨gb105, 3, none⟩ = some (.bool false) := (blk_cell BK105.out 3).trans rfl
                                  have hcz42_4 : w35.cell? ⟨gb105, 4, none⟩ = some (.int .i64 0) := (blk_cell BK105.out 4).trans rfl
                                  have hcz42_5 : w35.cell? ⟨gb105, 5, none⟩ = some (.slice none 0 0) := (blk_cell BK105.out 5).trans rfl
                                  have hfz42_0 := blk_frozen BK105.out 0
                                  have hfz42_1 := blk_frozen BK105.out 1
                                  have hfz42_2 := blk_frozen BK105.out 2
                                  have hfz42_3 := blk_frozen BK105.out 3
                                  have hfz42_4 := blk_frozen BK105.out 4
                                  have hfz42_5 := blk_frozen BK105.out 5
                                  go_wp2
                                  go_meet
                                  case rel => exact ⟨_, (true), (by first | rfl | (simp; done) | (simp [*]; done)), H', ⟨by have := HJ1.out; have := HK2.out; have := HJ9.out; have := HK4.out; first | omega | exact Nat.le_refl _⟩, ⟨by (with_reducible repeat (first | refine blk_drewN ?_ _ | refine blk_drew ?_ | refine blk_alloc ?_ _)); refine blk_far ?_ NB101_105.out _; (with_reducible repeat (first | refine blk_drewN ?_ _ | refine blk_drew ?_ | refine blk_alloc ?_ _)); refine blk_far ?_ NB101_105.out _; (with_reducible repeat (first | refine blk_drewN ?_ _ | refine blk_drew ?_ | refine blk_alloc ?_ _)); refine blk_far ?_ NB101_105.out _; (with_reducible repeat (first | refine blk_drewN ?_ _ | refine blk_drew ?_ | refine blk_alloc ?_ _)); refine blk_far ?_ NB101_105.out _; (with_reducible repeat (first | refine blk_drewN ?_ _ | refine blk_drew ?_ | refine blk_alloc ?_ _)); refine blk_far ?_ NB101_105.out _; (with_reducible repeat (first | refine blk_drewN ?_ _ | refine blk_drew ?_ | refine blk_alloc ?_ _)); refine blk_far ?_ NB101_105.out _; (with_reducible repeat (first | refine blk_drewN ?_ _ | refine blk_drew ?_ | refine blk_alloc ?_ _)); exact BK101.out⟩, ⟨by (with_reducible repeat (first | refine blk_drewN ?_ _ | refine blk_drew ?_ | refine blk_alloc ?_ _)); refine blk_far ?_ NB103_105.out _; (with_reducible repeat (first | refine blk_drewN ?_ _ | refine blk_drew ?_ | refine blk_alloc ?_ _)); refine blk_far ?_ NB103_105.out _; (with_reducible repeat (first | refine blk_drewN ?_ _ | refine blk_drew ?_ | refine blk_alloc ?_ _)); refine blk_far ?_ NB103_105.out _; (with_reducible repeat (first | refine blk_drewN ?_ _ | refine blk_drew ?_ | refine blk_alloc ?_ _)); refine blk_far ?_ NB103_105.out _; (with_reducible repeat (first | refine blk_drewN ?_ _ | refine blk_drew ?_ | refine blk_alloc ?_ _)); refine blk_far ?_ NB103_105.out _; (with_reducible repeat (first | refine blk_drewN ?_ _ | refine blk_drew ?_ | refine blk_alloc ?_ _)); refine blk_far ?_ NB103_105.out _; (with_reducible repeat (first | refine blk_drewN ?_ _ | refine blk_drew ?_ | refine blk_alloc ?_ _)); exact BK103.out⟩, ⟨by (with_reducible repeat (first | refine blk_drewN ?_ _ | refine blk_drew ?_ | refine blk_alloc ?_ _)); refine blk_put (cs := #[.string ((rd_T37 ((rd_T33 l0_0 x3_2).f6) x5_4).f0), .string ((rd_T37 ((rd_T33 l0_0 x3_2).f6) x5_4).f1), .bool ((rd_T37 ((rd_T33 l0_0 x3_2).f6) x5_4).f2), .bool ((rd_T37 ((rd_T33 l0_0 x3_2).f6) x5_4).f3), .int .i64 ((rd_T37 ((rd_T33 l0_0 x3_2).f6) x5_4).f4), .slice none 0 0]) ?_ 5 _ rfl; (with_reducible repeat (first | refine blk_drewN ?_ _ | refine blk_drew ?_ | refine blk_alloc ?_ _)); refine blk_put (cs := #[.string ((rd_T37 ((rd_T33 l0_0 x3_2).f6) x5_4).f0), .string ((rd_T37 ((rd_T33 l0_0 x3_2).f6) x5_4).f1), .bool ((rd_T37 ((rd_T33 l0_0 x3_2).f6) x5_4).f2), .bool ((rd_T37 ((rd_T33 l0_0 x3_2).f6) x5_4).f3), .int .i64 0, .slice none 0 0]) ?_ 4 _ rfl; (with_reducible repeat (first | refine blk_drewN ?_ _ | refine blk_drew ?_ | refine blk_alloc ?_ _)); refine blk_put (cs := #[.string ((rd_T37 ((rd_T33 l0_0 x3_2).f6) x5_4).f0), .string ((rd_T37 ((rd_T33 l0_0 x3_2).f6) x5_4).f1), .bool ((rd_T37 ((rd_T33 l0_0 x3_2).f6) x5_4).f2), .bool false, .int .i64 0, .slice none 0 0]) ?_ 3 _ rfl; (with_reducible repeat (first | refine blk_drewN ?_ _ | refine blk_drew ?_ | refine blk_alloc ?_ _)); refine blk_put (cs := #[.string ((rd_T37 ((rd_T33 l0_0 x3_2).f6) x5_4).f0), .string ((rd_T37 ((rd_T33 l0_0 x3_2).f6) x5_4).f1), .bool false, .bool false, .int .i64 0, .slice none 0 0]) ?_ 2 _ rfl; (with_reducible repeat (first | refine blk_drewN ?_ _ | refine blk_drew ?_ | refine blk_alloc ?_ _)); refine blk_put (cs := #[.string ((rd_T37 ((rd_T33 l0_0 x3_2).f6) x5_4).f0), .string (⟨#[]⟩ : ByteArray), .bool false, .bool false, .int .i64 0, .slice none 0 0]) ?_ 1 _ rfl; (with_reducible repeat (first | refine blk_drewN ?_ _ | refine blk_drew ?_ | refine blk_alloc ?_ _)); refine blk_put (cs := #[.string (⟨#[]⟩ : ByteArray), .string (⟨#[]⟩ : ByteArray), .bool false, .bool false, .int .i64 0, .slice none 0 0]) ?_ 0 _ rfl; (with_reducible repeat (first | refine blk_drewN ?_ _ | refine blk_drew ?_ | refine blk_alloc ?_ _)); exact BK105.out⟩, ⟨by repeat (first | (with_reducible first | exact HB.out | apply below_alloc | apply pw_below_drewN | apply below_drew1 | refine below_set ?_ GE101.out | refine below_set ?_ GE103.out | refine below_set ?_ GE105.out) | exact HB.out)⟩⟩
                                · rw [if_neg c39] at H
                                  have c39b0 : decide (300 < (((rd_T37 ((rd_T33 l0_0 x3_2).f6) x5_4).f5).length : Int)) = false := decide_eq_false c39
                                  have c39b1 : decide (300 < ((rd_T37 ((rd_T33 l0_0 x3_2).f6) x5_4).f5).length) = false := decide_eq_false (by omega)
                                  clear c39
                                  (first | rw [c39b0] | rw [c39b1] | (simp only [i64_w, i32_w]; rw [c39b0]) | skip)
                                  by_cases c43 : (((rd_T37 ((rd_T33 l0_0 x3_2).f6) x5_4).f0).size : Int) > 300
                                  · rw [if_pos c43] at H
                                    have c43b0 : decide (300 < (((rd_T37 ((rd_T33 l0_0 x3_2).f6) x5_4).f0).size : Int)) = true := decide_eq_true c43
                                    have c43b1 : decide (300 < ((rd_T37 ((rd_T33 l0_0 x3_2).f6) x5_4).f0).size) = true := decide_eq_true (by omega)
                                    clear c43
                                    have H' := Aside0.mk H
                                    clear H
                                    have hnb44 := NB105_101.out
                                    have hnc44 := NB101_105.out
                                    have hnb45 := NB105_103.out
                                    have hnc45 := NB103_105.out
                                    have hcz46_0 : w35.cell? ⟨gb105, 0, none⟩ = some (.string (⟨#[]⟩ : ByteArray)) := (blk_cell BK105.out 0).trans rfl
                                    have hcz46_1 : w35.cell? ⟨gb105, 1, none⟩ = some (.string (⟨#[]⟩ : ByteArray)) := (blk_cell BK105.out 1).trans rfl
                                    have hcz46_2 : w35.cell? ⟨gb105, 2, none⟩ = some (.bool false) := (blk_cell BK105.out 2).trans rfl
                                    have hcz46_3 : w35.cell? ⟨gb105, 3, none⟩ = some (.bool false) := (blk_cell BK105.out 3).trans rfl
                                    have hcz46_4 : w35.cell? ⟨gb105, 4, none⟩ = some (.int .i64 0) := (blk_cell BK105.out 4).trans rfl
                                    have hcz46_5 : w35.cell? ⟨gb105, 5, none⟩ = some (.slice none 0 0) := (blk_cell BK105.out 5).trans rfl
                                    have hfz46_0 := blk_frozen BK105.out 0
                                    have hfz46_1 := blk_frozen BK105.out 1
                                    have hfz46_2 := blk_frozen BK105.out 2
                                    have hfz46_3 := blk_frozen BK105.out 3
                                    have hfz46_4 := blk_frozen BK105.out 4
                                    have hfz46_5 := blk_frozen BK105.out 5
                                    go_wp2
                                    go_meet
                                    case rel => exact ⟨_, (true), (by first | rfl | (simp; done) | (simp [*]; done)), H', ⟨by have := HJ1.out; have := HK2.out; have := HJ9.out; have := HK4.out; first | omega | exact Nat.le_refl _⟩, ⟨by (with_reducible repeat (first | refine blk_drewN ?_ _ | refine blk_drew ?_ | refine blk_alloc ?_ _)); refine blk_far ?_ NB101_105.out _; (with_reducible repeat (first | refine blk_drewN ?_ _ | refine blk_drew ?_ | refine blk_alloc ?_ _)); refine blk_far ?_ NB101_105.out _; (with_reducible repeat (first | refine blk_drewN ?_ _ | refine blk_drew ?_ | refine blk_alloc ?_ _)); refine blk_far ?_ NB101_105.out _; (with_reducible repeat (first | refine blk_drewN ?_ _ | refine blk_drew ?_ | refine blk_alloc ?_ _)); refine blk_far ?_ NB101_105.out _; (with_reducible repeat (first | refine blk_drewN ?_ _ | refine blk_drew ?_ | refine blk_alloc ?_ _)); refine blk_far ?_ NB101_105.out _; (with_reducible repeat (first | refine blk_drewN ?_ _ | refine blk_drew ?_ | refine blk_alloc ?_ _)); refine blk_far ?_ NB101_105.out _; (with_reducible repeat (first | refine blk_drewN ?_ _ | refine blk_drew ?_ | refine blk_alloc ?_ _)); exact BK101.out⟩, ⟨by (with_reducible repeat (first | refine blk_drewN ?_ _ | refine blk_drew ?_ | refine blk_alloc ?_ _)); refine blk_far ?_ NB103_105.out _; (with_reducible repeat (first | refine blk_drewN ?_ _ | refine blk_drew ?_ | refine blk_alloc ?_ _)); refine blk_far ?_ NB103_105.out _; (with_reducible repeat (first | refine blk_drewN ?_ _ | refine blk_drew ?_ | refine blk_alloc ?_ _)); refine blk_far ?_ NB103_105.out _; (with_reducible repeat (first | refine blk_drewN ?_ _ | refine blk_drew ?_ | refine blk_alloc ?_ _)); refine blk_far ?_ NB103_105.out _; (with_reducible repeat (first | refine blk_drewN ?_ _ | refine blk_drew ?_ | refine blk_alloc ?_ _)); refine blk_far ?_ NB103_105.out _; (with_reducible repeat (first | refine blk_drewN ?_ _ | refine blk_drew ?_ | refine blk_alloc ?_ _)); refine blk_far ?_ NB103_105.out _; (with_reducible repeat (first | refine blk_drewN ?_ _ | refine blk_drew ?_ | refine blk_alloc ?_ _)); exact BK103.out⟩, ⟨by (with_reducible repeat (first | refine blk_drewN ?_ _ | refine blk_drew ?_ | refine blk_alloc ?_ _)); refine blk_put (cs := #[.string ((rd_T37 ((rd_T33 l0_0 x3_2).f6) x5_4).f0), .string ((rd_T37 ((rd_T33 l0_0 x3_2).f6) x5_4).f1), .bool ((rd_T37 ((rd_T33 l0_0 x3_2).f6) x5_4).f2), .bool ((rd_T37 ((rd_T33 l0_0 x3_2).f6) x5_4).f3), .int .i64 ((rd_T37 ((rd_T33 l0_0 x3_2).f6) x5_4).f4), .slice none 0 0]) ?_ 5 _ rfl; (with_reducible repeat (first | refine blk_drewN ?_ _ | refine blk_drew ?_ | refine blk_alloc ?_ _)); refine blk_put (cs := #[.string ((rd_T37 ((rd_T33 l0_0 x3_2).f6) x5_4).f0), .string ((rd_T37 ((rd_T33 l0_0 x3_2).f6) x5_4).f1), .bool ((rd_T37 ((rd_T33 l0_0 x3_2).f6) x5_4).f2), .bool ((rd_T37 ((rd_T33 l0_0 x3_2).f6) x5_4).f3), .int .i64 0, .slice none 0 0]) ?_ 4 _ rfl; (with_reducible repeat (first | refine blk_drewN ?_ _ | refine blk_drew ?_ | refine blk_alloc ?_ _)); refine blk_put (cs := #[.string ((rd_T37 ((rd_T33 l0_0 x3_2).f6) x5_4).f0), .string ((rd_T37 ((rd_T33 l0_0 x3_2).f6) x5_4).f1), .bool ((rd_T37 ((rd_T33 l0_0 x3_2).f6) x5_4).f2), .bool false, .int .i64 0, .slice none 0 0]) ?_ 3 _ rfl; (with_reducible repeat (first | refine blk_drewN ?_ _ | refine blk_drew ?_ | refine blk_alloc ?_ _)); refine blk_put (cs := #[.string ((rd_T37 ((rd_T33 l0_0 x3_2).f6) x5_4).f0), .string ((rd_T37 ((rd_T33 l0_0 x3_2).f6) x5_4).f1), .bool false, .bool false, .int .i64 0, .slice none 0 0]) ?_ 2 _ rfl; (with_reducible repeat (first | refine blk_drewN ?_ _ | refine blk_drew ?_ | refine blk_alloc ?_ _)); refine blk_put (cs := #[.string ((rd_T37 ((rd_T33 l0_0 x3_2).f6) x5_4).f0), .string (⟨#[]⟩ : ByteArray), .bool false, .bool false, .int .i64 0, .slice none 0 0]) ?_ 1 _ rfl; (with_reducible repeat (first | refine blk_drewN ?_ _ | refine blk_drew ?_ | refine blk_alloc ?_ _)); refine blk_put (cs := #[.string (⟨#[]⟩ : ByteArray), .string (⟨#[]⟩ : ByteArray), .bool false, .bool false, .int .i64 0, .slice none 0 0]) ?_ 0 _ rfl; (with_reducible repeat (first | refine blk_drewN ?_ _ | refine blk_drew ?_ | refine blk_alloc ?_ _)); exact BK105.out⟩, ⟨by repeat (first | (with_reducible first | exact HB.out | apply below_alloc | apply pw_below_drewN | apply below_drew1 | refine below_set ?_ GE101.out | refine below_set ?_ GE103.out | refine below_set ?_ GE105.out) | exact HB.out)⟩⟩
                                  · rw [if_neg c43] at H
                                    have c43b0 : decide (300 < (((rd_T37 ((rd_T33 l0_0 x3_2).f6) x5_4).f0).size : Int)) = false := decide_eq_false c43
                                    have c43b1 : decide (300 < ((rd_T37 ((rd_T33 l0_0 x3_2).f6) x5_4).f0).size) = false := decide_eq_false (by omega)
                                    clear c43
                                    have H' := Aside0.mk H
                                    clear H
                                    have hnb47 := NB105_101.out
                                    have hnc47 := NB101_105.out
                                    have hnb48 := NB105_103.out
                                    have hnc48 := NB103_105.out
                                    have hcz49_0 : w35.cell? ⟨gb105, 0, none⟩ = some (.string (⟨#[]⟩ : ByteArray)) := (blk_cell BK105.out 0).trans rfl
                                    have hcz49_1 : w35.cell? ⟨gb105, 1, none⟩ = some (.string (⟨#[]⟩ : ByteArray)) := (blk_cell BK105.out 1).trans rfl
                                    have hcz49_2 : w35.cell? ⟨gb105, 2, none⟩ = some (.bool false) := (blk_cell BK105.out 2).trans rfl
                                    have hcz49_3 : w35.cell? ⟨gb105, 3, none⟩ = some (.bool false) := (blk_cell BK105.out 3).trans rfl
                                    have hcz49_4 : w35.cell? ⟨gb105, 4, none⟩ = some (.int .i64 0) := (blk_cell BK105.out 4).trans rfl
                                    have hcz49_5 : w35.cell? ⟨gb105, 5, none⟩ = some (.slice none 0 0) := (blk_cell BK105.out 5).trans rfl
                                    have hfz49_0 := blk_frozen BK105.out 0
                                    have hfz49_1 := blk_frozen BK105.out 1
                                    have hfz49_2 := blk_frozen BK105.out 2
                                    have hfz49_3 := blk_frozen BK105.out 3
                                    have hfz49_4 := blk_frozen BK105.out 4
                                    have hfz49_5 := blk_frozen BK105.out 5
                                    go_wp2
                                    go_meet
                                    case rel => exact ⟨_, (decide ((((rd_T37 ((rd_T33 l0_0 x3_2).f6) x5_4).f1).size : Int) > 300)), (by first | rfl | (simp; done) | (simp [*]; done)), H', ⟨by have := HJ1.out; have := HK2.out; have := HJ9.out; have := HK4.out; first | omega | exact Nat.le_refl _⟩, ⟨by (with_reducible repeat (first | refine blk_drewN ?_ _ | refine blk_drew ?_ | refine blk_alloc ?_ _)); refine blk_far ?_ NB101_105.out _; (with_reducible repeat (first | refine blk_drewN ?_ _ | refine blk_drew ?_ | refine blk_alloc ?_ _)); refine blk_far ?_ NB101_105.out _; (with_reducible repeat (first | refine blk_drewN ?_ _ | refine blk_drew ?_ | refine blk_alloc ?_ _)); refine blk_far ?_ NB101_105.out _; (with_reducible repeat (first | refine blk_drewN ?_ _ | refine blk_drew ?_ | refine blk_alloc ?_ _)); refine blk_far ?_ NB101_105.out _; (with_reducible repeat (first | refine blk_drewN ?_ _ | refine blk_drew ?_ | refine blk_alloc ?_ _)); refine blk_far ?_ NB101_105.out _; (with_reducible repeat (first | refine blk_drewN ?_ _ | refine blk_drew ?_ | refine blk_alloc ?_ _)); refine blk_far ?_ NB101_105.out _; (with_reducible repeat (first | refine blk_drewN ?_ _ | refine blk_drew ?_ | refine blk_alloc ?_ _)); exact BK101.out⟩, ⟨by (with_reducible repeat (first | refine blk_drewN ?_ _ | refine blk_drew ?_ | refine blk_alloc ?_ _)); refine blk_far ?_ NB103_105.out _; (with_reducible repeat (first | refine blk_drewN ?_ _ | refine blk_drew ?_ | refine blk_alloc ?_ _)); refine blk_far ?_ NB103_105.out _; (with_reducible repeat (first | refine blk_drewN ?_ _ | refine blk_drew ?_ | refine blk_alloc ?_ _)); refine blk_far ?_ NB103_105.out _; (with_reducible repeat (first | refine blk_drewN ?_ _ | refine blk_drew ?_ | refine blk_alloc ?_ _)); refine blk_far ?_ NB103_105.out _; (with_reducible repeat (first | refine blk_drewN ?_ _ | refine blk_drew ?_ | refine blk_alloc ?_ _)); refine blk_far ?_ NB103_105.out _; (with_reducible repeat (first | refine blk_drewN ?_ _ | refine blk_drew ?_ | refine blk_alloc ?_ _)); refine blk_far ?_ NB103_105.out _; (with_reducible repeat (first | refine blk_drewN ?_ _ | refine blk_drew ?_ | refine blk_alloc ?_ _)); exact BK103.out⟩, ⟨by (with_reducible repeat (first | refine blk_drewN ?_ _ | refine blk_drew ?_ | refine blk_alloc ?_ _)); refine blk_put (cs := #[.string ((rd_T37 ((rd_T33 l0_0 x3_2).f6) x5_4).f0), .string ((rd_T37 ((rd_T33 l0_0 x3_2).f6) x5_4).f1), .bool ((rd_T37 ((rd_T33 l0_0 x3_2).f6) x5_4).f2), .bool ((rd_T37 ((rd_T33 l0_0 x3_2).f6) x5_4).f3), .int .i64 ((rd_T37 ((rd_T33 l0_0 x3_2).f6) x5_4).f4), .slice none 0 0]) ?_ 5 _ rfl; (with_reducible repeat (first | refine blk_drewN ?_ _ | refine blk_drew ?_ | refine blk_alloc ?_ _)); refine blk_put (cs := #[.string ((rd_T37 ((rd_T33 l0_0 x3_2).f6) x5_4).f0), .string ((rd_T37 ((rd_T33 l0_0 x3_2).f6) x5_4).f1), .bool ((rd_T37 ((rd_T33 l0_0 x3_2).f6) x5_4).f2), .bool ((rd_T37 ((rd_T33 l0_0 x3_2).f6) x5_4).f3), .int .i64 0, .slice none 0 0]) ?_ 4 _ rfl; (with_reducible repeat (first | refine blk_drewN ?_ _ | refine blk_drew ?_ | refine blk_alloc ?_ _)); refine blk_put (cs := #[.string ((rd_T37 ((rd_T33 l0_0 x3_2).f6) x5_4).f0), .string ((rd_T37 ((rd_T33 l0_0 x3_2).f6) x5_4).f1), .bool ((rd_T37 ((rd_T33 l0_0 x3_2).f6) x5_4).f2), .bool false, .int .i64 0, .slice none 0 0]) ?_ 3 _ rfl; (with_reducible repeat (first | refine blk_drewN ?_ _ | refine blk_drew ?_ | refine blk_alloc ?_ _)); refine blk_put (cs := #[.string ((rd_T37 ((rd_T33 l0_0 x3_2).f6) x5_4).f0), .string ((rd_T37 ((rd_T33 l0_0 x3_2).f6) x5_4).f1), .bool false, .bool false, .int .i64 0, .slice none 0 0]) ?_ 2 _ rfl; (with_reducible repeat (first | refine blk_drewN ?_ _ | refine blk_drew ?_ | refine blk_alloc ?_ _)); refine blk_put (cs := #[.string ((rd_T37 ((rd_T33 l0_0 x3_2).f6) x5_4).f0), .string (⟨#[]⟩ : ByteArray), .bool false, .bool false, .int .i64 0, .slice none 0 0]) ?_ 1 _ rfl; (with_reducible repeat (first | refine blk_drewN ?_ _ | refine blk_drew ?_ | refine blk_alloc ?_ _)); refine blk_put (cs := #[.string (⟨#[]⟩ : ByteArray), .string (⟨#[]⟩ : ByteArray), .bool false, .bool false, .int .i64 0, .slice none 0 0]) ?_ 0 _ rfl; (with_reducible repeat (first | refine blk_drewN ?_ _ | refine blk_drew ?_ | refine blk_alloc ?_ _)); exact BK105.out⟩, ⟨by repeat (first | (with_reducible first | exact HB.out | apply below_alloc | apply pw_below_drewN | apply below_drew1 | refine below_set ?_ GE101.out | refine below_set ?_ GE103.out | refine below_set ?_ GE105.out) | exact HB.out)⟩⟩
                              case rest =>
                                clear HC32
                                try clear c1
                                try clear p1
                                try clear q1
                                try clear hx1
                                try clear c2
                                try clear p2
                                try clear c3
                                try clear c4
                                try clear c4b0
                                try clear c4b1
                                try clear c7
                                try clear c8
                                try clear c8b0
                                try clear c9
                                try clear c9b0
                                try clear c10
                                try clear p10
                                try clear q10
                                try clear hx10
                                try clear c13
                                try clear c15
                                try clear c15b0
                                try clear c15b1
                                try clear c16
                                try clear c18
                                try clear c18b0
                                try clear c18b1
                                try clear c19
                                try clear c21
                                try clear c21b0
                                try clear c21b1
                                try clear c22
                                try clear c24
                                try clear c24b0
                                try clear c24b1
                                try clear c25
                                try clear c27
                                try clear c29
                                try clear c30
                                try clear c30b0
                                try clear c31
                                try clear c31b0
                                try clear c33
                                try clear c36
                                try clear c37
                                try clear c39
                                try clear c39b0
                                try clear c39b1
                                try clear c40
                                try clear c41
                                try clear c43
                                try clear c43b0
                                try clear c43b1
                                try clear c44
                                try clear c45
                                try clear c47
                                try clear c48
                                try clear hcz11_0
                                try clear hcz11_1
                                try clear hcz11_2
                                try clear hcz11_3
                                try clear hcz11_4
                                try clear hcz14_0
                                try clear hcz14_1
                                try clear hcz14_2
                                try clear hcz14_3
                                try clear hcz14_4
                                try clear hcz14_5
                                try clear hcz14_6
                                try clear hcz17_0
                                try clear hcz17_1
                                try clear hcz17_2
                                try clear hcz17_3
                                try clear hcz17_4
                                try clear hcz17_5
                                try clear hcz17_6
                                try clear hcz20_0
                                try clear hcz20_1
                                try clear hcz20_2
                                try clear hcz20_3
                                try clear hcz20_4
                                try clear hcz20_5
                                try clear hcz20_6
                                try clear hcz23_0
                                try clear hcz23_1
                                try clear hcz23_2
                                try clear hcz23_3
                                try clear hcz23_4
                                try clear hcz23_5
                                try clear hcz23_6
                                try clear hcz26_0
                                try clear hcz26_1
                                try clear hcz26_2
                                try clear hcz26_3
                                try clear hcz26_4
                                try clear hcz26_5
                                try clear hcz26_6
                                try clear hcz28_0
                                try clear hcz28_1
                                try clear hcz28_2
                                try clear hcz28_3
                                try clear hcz28_4
                                try clear hcz28_5
                                try clear hcz28_6
                                try clear hcz34_0
                                try clear hcz34_1
                                try clear hcz34_2
                                try clear hcz34_3
                                try clear hcz34_4
                                try clear hcz34_5
                                try clear hcz34_6
                                try clear hcz38_0
                                try clear hcz38_1
                                try clear hcz38_2
                                try clear hcz38_3
                                try clear hcz38_4
                                try clear hcz38_5
                                try clear hcz42_0
                                try clear hcz42_1
                                try clear hcz42_2
                                try clear hcz42_3
                                try clear hcz42_4
                                try clear hcz42_5
                                try clear hcz46_0
                                try clear hcz46_1
                                try clear hcz46_2
                                try clear hcz46_3
                                try clear hcz46_4
                                try clear hcz46_5
                                try clear hcz49_0
                                try clear hcz49_1
                                try clear hcz49_2
                                try clear hcz49_3
                                try clear hcz49_4
                                try clear hcz49_5
                                try clear hcz5_0
                                try clear hcz5_1
                                try clear hcz5_2
                                try clear hcz5_3
                                try clear hcz5_4
                                try clear hcz6_0
                                try clear hcz6_1
                                try clear hcz6_2
                                try clear hcz6_3
                                try clear hcz6_4
                                try clear hfz11_0
                                try clear hfz11_1
                                try clear hfz11_2
                                try clear hfz11_3
                                try clear hfz11_4
                                try clear hfz14_0
                                try clear hfz14_1
                                try clear hfz14_2
                                try clear hfz14_3
                                try clear hfz14_4
                                try clear hfz14_5
                                try clear hfz14_6
                                try clear hfz17_0
                                try clear hfz17_1
                                try clear hfz17_2
                                try clear hfz17_3
                                try clear hfz17_4
                                try clear hfz17_5
                                try clear hfz17_6
                                try clear hfz20_0
                                try clear hfz20_1
                                try clear hfz20_2
                                try clear hfz20_3
                                try clear hfz20_4
                                try clear hfz20_5
                                try clear hfz20_6
                                try clear hfz23_0
                                try clear hfz23_1
                                try clear hfz23_2
                                try clear hfz23_3
                                try clear hfz23_4
                                try clear hfz23_5
                                try clear hfz23_6
                                try clear hfz26_0
                                try clear hfz26_1
                                try clear hfz26_2
                                try clear hfz26_3
                                try clear hfz26_4
                                try clear hfz26_5
                                try clear hfz26_6
                                try clear hfz28_0
                                try clear hfz28_1
                                try clear hfz28_2
                                try clear hfz28_3
                                try clear hfz28_4
                                try clear hfz28_5
                                try clear hfz28_6
                                try clear hfz34_0
                                try clear hfz34_1
                                try clear hfz34_2
                                try clear hfz34_3
                                try clear hfz34_4
                                try clear hfz34_5
                                try clear hfz34_6
                                try clear hfz38_0
                                try clear hfz38_1
                                try clear hfz38_2
                                try clear hfz38_3
                                try clear hfz38_4
                                try clear hfz38_5
                                try clear hfz42_0
                                try clear hfz42_1
                                try clear hfz42_2
                                try clear hfz42_3
                                try clear hfz42_4
                                try clear hfz42_5
                                try clear hfz46_0
                                try clear hfz46_1
                                try clear hfz46_2
                                try clear hfz46_3
                                try clear hfz46_4
                                try clear hfz46_5
                                try clear hfz49_0
                                try clear hfz49_1
                                try clear hfz49_2
                                try clear hfz49_3
                                try clear hfz49_4
                                try clear hfz49_5
                                try clear hfz5_0
                                try clear hfz5_1
                                try clear hfz5_2
                                try clear hfz5_3
                                try clear hfz5_4
                                try clear hfz6_0
                                try clear hfz6_1
                                try clear hfz6_2
                                try clear hfz6_3
                                try clear hfz6_4
                                try clear hx102_0
                                try clear hx102_1
                                try clear hx102_2
                                try clear hx102_3
                                try clear hx102_4
                                try clear hx102_5
                                try clear hx102_6
                                try clear hx104_0
                                try clear hx104_1
                                try clear hx104_2
                                try clear hx104_3
                                try clear hx104_4
                                try clear hx104_5
                                try clear p1
                                try clear p10
                                try clear p102
                                try clear p104
                                try clear p2
                                try clear q1
                                try clear q10
                                try clear q102
                                try clear q104
                                obtain ⟨kq, x85_31, rfl, HA, HJ31, BK101, BK103, BK105, HB⟩ := hcut
                                cases kq with
                                | zero => exact absurd HA.out (by simp [secateurlaw08_Great.j4])
                                | succ kj31 =>
                                  have H := HA.out
                                  clear HA
                                  simp only [secateurlaw08_Great.j4] at H
                                  by_cases c50 : x85_31 = true
                                  · subst c50
                                    have H1 : (some true) = some r := by rw [if_pos rfl] at H; exact H
                                    clear H
                                    have H := H1
                                    clear H1
                                    obtain rfl := Option.some.inj H
                                    go_wp2
                                    go_ret
                                    exact ⟨by first | rfl | (simp [errW_none, errW_some] <;> rfl) | (simp [*, errW_none, errW_some] <;> rfl), by repeat (first | (with_reducible first | exact HB.out | apply below_alloc | apply pw_below_drewN | apply below_drew1 | refine below_set ?_ GE101.out | refine below_set ?_ GE103.out | refine below_set ?_ GE105.out) | exact HB.out)⟩
                                  · replace c50 := Bool.eq_false_iff.mpr c50
                                    subst c50
                                    have H1 : (secateurlaw08_Great.l2 kj31 x3_2 x5_4 0 l0_0 l0_1 a0_2 a0_3 a0_4 ((rd_T33 l0_0 x3_2).f0) ((rd_T33 l0_0 x3_2).f1) ((rd_T33 l0_0 x3_2).f2) ((rd_T33 l0_0 x3_2).f3) ((rd_T33 l0_0 x3_2).f4) ((rd_T33 l0_0 x3_2).f5) ((rd_T33 l0_0 x3_2).f6) ((rd_T37 ((rd_T33 l0_0 x3_2).f6) x5_4).f0) ((rd_T37 ((rd_T33 l0_0 x3_2).f6) x5_4).f1) ((rd_T37 ((rd_T33 l0_0 x3_2).f6) x5_4).f2) ((rd_T37 ((rd_T33 l0_0 x3_2).f6) x5_4).f3) ((rd_T37 ((rd_T33 l0_0 x3_2).f6) x5_4).f4) ((rd_T37 ((rd_T33 l0_0 x3_2).f6) x5_4).f5)) = some r := by rw [if_neg (show ¬ (false = true) by decide)] at H; exact H
                                    clear H
                                    have H := H1
                                    clear H1
                                    have H' := Aside0.mk H
                                    clear H
                                    go_wp2
                                    go_loopg [7] kj31 (fun kq v7 w' => ∃ (x7_6 : Int), v7 = .int .i64 x7_6 ∧ Aside0 (secateurlaw08_Great.l2 kq x3_2 x5_4 x7_6 l0_0 l0_1 a0_2 a0_3 a0_4 ((rd_T33 l0_0 x3_2).f0) ((rd_T33 l0_0 x3_2).f1) ((rd_T33 l0_0 x3_2).f2) ((rd_T33 l0_0 x3_2).f3) ((rd_T33 l0_0 x3_2).f4) ((rd_T33 l0_0 x3_2).f5) ((rd_T33 l0_0 x3_2).f6) ((rd_T37 ((rd_T33 l0_0 x3_2).f6) x5_4).f0) ((rd_T37 ((rd_T33 l0_0 x3_2).f6) x5_4).f1) ((rd_T37 ((rd_T33 l0_0 x3_2).f6) x5_4).f2) ((rd_T37 ((rd_T33 l0_0 x3_2).f6) x5_4).f3) ((rd_T37 ((rd_T33 l0_0 x3_2).f6) x5_4).f4) ((rd_T37 ((rd_T33 l0_0 x3_2).f6) x5_4).f5) = some r) ∧ Aside0 (kq ≤ kj31) ∧ Aside0 (w'.heap[gb101]? = some (.cells #[(.slice (some ad102) l0_0.length c0_0), (.slice A0_1 l0_1.length c0_1), .string a0_2, .string a0_3, .string a0_4] 27 (0, 0))) ∧ Aside0 (w'.heap[gb103]? = some (.cells #[.string ((rd_T33 l0_0 x3_2).f0), .string ((rd_T33 l0_0 x3_2).f1), .bool ((rd_T33 l0_0 x3_2).f2), .bool ((rd_T33 l0_0 x3_2).f3), (.slice A102_4 ((rd_T33 l0_0 x3_2).f4).length c102_4), (.slice A102_5 ((rd_T33 l0_0 x3_2).f5).length c102_5), (.slice (some ad104) ((rd_T33 l0_0 x3_2).f6).length c102_6)] 33 (0, 0))) ∧ Aside0 (w'.heap[gb105]? = some (.cells #[.string ((rd_T37 ((rd_T33 l0_0 x3_2).f6) x5_4).f0), .string ((rd_T37 ((rd_T33 l0_0 x3_2).f6) x5_4).f1), .bool ((rd_T37 ((rd_T33 l0_0 x3_2).f6) x5_4).f2), .bool ((rd_T37 ((rd_T33 l0_0 x3_2).f6) x5_4).f3), .int .i64 ((rd_T37 ((rd_T33 l0_0 x3_2).f6) x5_4).f4), (.slice A104_5 ((rd_T37 ((rd_T33 l0_0 x3_2).f6) x5_4).f5).length c104_5)] 37 (0, 0))) ∧ Aside0 (Below w.heap.size w w'))
                                    case atStart => exact ⟨(0), (by first | rfl | (simp; done) | (simp [*]; done)), H', ⟨Nat.le_refl _⟩, ⟨by (with_reducible repeat (first | refine blk_drewN ?_ _ | refine blk_drew ?_ | refine blk_alloc ?_ _)); exact BK101.out⟩, ⟨by (with_reducible repeat (first | refine blk_drewN ?_ _ | refine blk_drew ?_ | refine blk_alloc ?_ _)); exact BK103.out⟩, ⟨by (with_reducible repeat (first | refine blk_drewN ?_ _ | refine blk_drew ?_ | refine blk_alloc ?_ _)); exact BK105.out⟩, ⟨by repeat (first | (with_reducible first | exact HB.out | apply below_alloc | apply pw_below_drewN | apply below_drew1 | refine below_set ?_ GE101.out | refine below_set ?_ GE103.out | refine below_set ?_ GE105.out) | exact HB.out)⟩⟩
                                    case round =>
                                      clear H'
                                      try clear c1
                                      try clear p1
                                      try clear q1
                                      try clear hx1
                                      try clear c2
                                      try clear p2
                                      try clear c3
                                      try clear c4
                                      try clear c4b0
                                      try clear c4b1
                                      try clear c5
                                      try clear c7
                                      try clear c8
                                      try clear c8b0
                                      try clear c9
                                      try clear c9b0
                                      try clear c10
                                      try clear p10
                                      try clear q10
                                      try clear hx10
                                      try clear c13
                                      try clear c15
                                      try clear c15b0
                                      try clear c15b1
                                      try clear c16
                                      try clear c18
                                      try clear c18b0
                                      try clear c18b1
                                      try clear c19
                                      try clear c21
                                      try clear c21b0
                                      try clear c21b1
                                      try clear c22
                                      try clear c24
                                      try clear c24b0
                                      try clear c24b1
                                      try clear c25
                                      try clear c27
                                      try clear c29
                                      try clear c30
                                      try clear c30b0
                                      try clear c31
                                      try clear c31b0
                                      try clear c33
                                      try clear c36
                                      try clear c37
                                      try clear c39
                                      try clear c39b0
                                      try clear c39b1
                                      try clear c40
                                      try clear c41
                                      try clear c43
                                      try clear c43b0
                                      try clear c43b1
                                      try clear c44
                                      try clear c45
                                      try clear c47
                                      try clear c48
                                      try clear c50
                                      try clear hcz11_0
                                      try clear hcz11_1
                                      try clear hcz11_2
                                      try clear hcz11_3
                                      try clear hcz11_4
                                      try clear hcz14_0
                                      try clear hcz14_1
                                      try clear hcz14_2
                                      try clear hcz14_3
                                      try clear hcz14_4
                                      try clear hcz14_5
                                      try clear hcz14_6
                                      try clear hcz17_0
                                      try clear hcz17_1
                                      try clear hcz17_2
                                      try clear hcz17_3
                                      try clear hcz17_4
                                      try clear hcz17_5
                                      try clear hcz17_6
                                      try clear hcz20_0
                                      try clear hcz20_1
                                      try clear hcz20_2
                                      try clear hcz20_3
                                      try clear hcz20_4
                                      try clear hcz20_5
                                      try clear hcz20_6
                                      try clear hcz23_0
                                      try clear hcz23_1
                                      try clear hcz23_2
                                      try clear hcz23_3
                                      try clear hcz23_4
                                      try clear hcz23_5
                                      try clear hcz23_6
                                      try clear hcz26_0
                                      try clear hcz26_1
                                      try clear hcz26_2
                                      try clear hcz26_3
                                      try clear hcz26_4
                                      try clear hcz26_5
                                      try clear hcz26_6
                                      try clear hcz28_0
                                      try clear hcz28_1
                                      try clear hcz28_2
                                      try clear hcz28_3
                                      try clear hcz28_4
                                      try clear hcz28_5
                                      try clear hcz28_6
                                      try clear hcz34_0
                                      try clear hcz34_1
                                      try clear hcz34_2
                                      try clear hcz34_3
                                      try clear hcz34_4
                                      try clear hcz34_5
                                      try clear hcz34_6
                                      try clear hcz38_0
                                      try clear hcz38_1
                                      try clear hcz38_2
                                      try clear hcz38_3
                                      try clear hcz38_4
                                      try clear hcz38_5
                                      try clear hcz42_0
                                      try clear hcz42_1
                                      try clear hcz42_2
                                      try clear hcz42_3
                                      try clear hcz42_4
                                      try clear hcz42_5
                                      try clear hcz46_0
                                      try clear hcz46_1
                                      try clear hcz46_2
                                      try clear hcz46_3
                                      try clear hcz46_4
                                      try clear hcz46_5
                                      try clear hcz49_0
                                      try clear hcz49_1
                                      try clear hcz49_2
                                      try clear hcz49_3
                                      try clear hcz49_4
                                      try clear hcz49_5
                                      try clear hcz5_0
                                      try clear hcz5_1
                                      try clear hcz5_2
                                      try clear hcz5_3
                                      try clear hcz5_4
                                      try clear hcz6_0
                                      try clear hcz6_1
                                      try clear hcz6_2
                                      try clear hcz6_3
                                      try clear hcz6_4
                                      try clear hfz11_0
                                      try clear hfz11_1
                                      try clear hfz11_2
                                      try clear hfz11_3
                                      try clear hfz11_4
                                      try clear hfz14_0
                                      try clear hfz14_1
                                      try clear hfz14_2
                                      try clear hfz14_3
                                      try clear hfz14_4
                                      try clear hfz14_5
                                      try clear hfz14_6
                                      try clear hfz17_0
                                      try clear hfz17_1
                                      try clear hfz17_2
                                      try clear hfz17_3
                                      try clear hfz17_4
                                      try clear hfz17_5
                                      try clear hfz17_6
                                      try clear hfz20_0
                                      try clear hfz20_1
                                      try clear hfz20_2
                                      try clear hfz20_3
                                      try clear hfz20_4
                                      try clear hfz20_5
                                      try clear hfz20_6
                                      try clear hfz23_0
                                      try clear hfz23_1
                                      try clear hfz23_2
                                      try clear hfz23_3
                                      try clear hfz23_4
                                      try clear hfz23_5
                                      try clear hfz23_6
                                      try clear hfz26_0
                                      try clear hfz26_1
                                      try clear hfz26_2
                                      try clear hfz26_3
                                      try clear hfz26_4
                                      try clear hfz26_5
                                      try clear hfz26_6
                                      try clear hfz28_0
                                      try clear hfz28_1
                                      try clear hfz28_2
                                      try clear hfz28_3
                                      try clear hfz28_4
                                      try clear hfz28_5
                                      try clear hfz28_6
                                      try clear hfz34_0
                                      try clear hfz34_1
                                      try clear hfz34_2
                                      try clear hfz34_3
                                      try clear hfz34_4
                                      try clear hfz34_5
                                      try clear hfz34_6
                                      try clear hfz38_0
                                      try clear hfz38_1
                                      try clear hfz38_2
                                      try clear hfz38_3
                                      try clear hfz38_4
                                      try clear hfz38_5
                                      try clear hfz42_0
                                      try clear hfz42_1
                                      try clear hfz42_2
                                      try clear hfz42_3
                                      try clear hfz42_4
                                      try clear hfz42_5
                                      try clear hfz46_0
                                      try clear hfz46_1
                                      try clear hfz46_2
                                      try clear hfz46_3
                                      try clear hfz46_4
                                      try clear hfz46_5
                                      try clear hfz49_0
                                      try clear hfz49_1
                                      try clear hfz49_2
                                      try clear hfz49_3
                                      try clear hfz49_4
                                      try clear hfz49_5
                                      try clear hfz5_0
                                      try clear hfz5_1
                                      try clear hfz5_2
                                      try clear hfz5_3
                                      try clear hfz5_4
                                      try clear hfz6_0
                                      try clear hfz6_1
                                      try clear hfz6_2
                                      try clear hfz6_3
                                      try clear hfz6_4
                                      try clear hx102_0
                                      try clear hx102_1
                                      try clear hx102_2
                                      try clear hx102_3
                                      try clear hx102_4
                                      try clear hx102_5
                                      try clear hx102_6
                                      try clear hx104_0
                                      try clear hx104_1
                                      try clear hx104_2
                                      try clear hx104_3
                                      try clear hx104_4
                                      try clear hx104_5
                                      try clear p1
                                      try clear p10
                                      try clear p102
                                      try clear p104
                                      try clear p2
                                      try clear q1
                                      try clear q10
                                      try clear q102
                                      try clear q104
                                      obtain ⟨x7_6, rfl, HA, HK6, BK101, BK103, BK105, HB⟩ := hrel
                                      cases gk with
                                      | zero => exact absurd HA.out (by simp [secateurlaw08_Great.l2])
                                      | succ k6 =>
                                        have H := HA.out
                                        clear HA
                                        simp only [secateurlaw08_Great.l2] at H
                                        by_cases c51 : x7_6 < (((rd_T37 ((rd_T33 l0_0 x3_2).f6) x5_4).f5).length : Int)
                                        · rw [if_pos c51] at H
                                          have c51b0 : decide (x7_6 < (((rd_T37 ((rd_T33 l0_0 x3_2).f6) x5_4).f5).length : Int)) = true := decide_eq_true c51
                                          clear c51
                                          by_cases c52 : 0 ≤ x7_6
                                          · rw [if_pos c52] at H
                                            have c52b0 : decide (0 ≤ x7_6) = true := decide_eq_true c52
                                            clear c52
                                            by_cases c53 : (((rd_T74 ((rd_T37 ((rd_T33 l0_0 x3_2).f6) x5_4).f5) x7_6).f8).length : Int) > 60
                                            · rw [if_pos c53] at H
                                              have c53b0 : decide (60 < (((rd_T74 ((rd_T37 ((rd_T33 l0_0 x3_2).f6) x5_4).f5) x7_6).f8).length : Int)) = true := decide_eq_true c53
                                              have c53b1 : decide (60 < ((rd_T74 ((rd_T37 ((rd_T33 l0_0 x3_2).f6) x5_4).f5) x7_6).f8).length) = true := decide_eq_true (by omega)
                                              clear c53
                                              obtain rfl := Option.some.inj H
                                              have hnb54 := NB105_101.out
                                              have hnc54 := NB101_105.out
                                              have hnb55 := NB105_103.out
                                              have hnc55 := NB103_105.out
                                              have hcz56_0 : wr.cell? ⟨gb105, 0, none⟩ = some (.string ((rd_T37 ((rd_T33 l0_0 x3_2).f6) x5_4).f0)) := (blk_cell BK105.out 0).trans rfl
                                              have hcz56_1 : wr.cell? ⟨gb105, 1, none⟩ = some (.string ((rd_T37 ((rd_T33 l0_0 x3_2).f6) x5_4).f1)) := (blk_cell BK105.out 1).trans rfl
                                              have hcz56_2 : wr.cell? ⟨gb105, 2, none⟩ = some (.bool ((rd_T37 ((rd_T33 l0_0 x3_2).f6) x5_4).f2)) := (blk_cell BK105.out 2).trans rfl
                                              have hcz56_3 : wr.cell? ⟨gb105, 3, none⟩ = some (.bool ((rd_T37 ((rd_T33 l0_0 x3_2).f6) x5_4).f3)) := (blk_cell BK105.out 3).trans rfl
                                              have hcz56_4 : wr.cell? ⟨gb105, 4, none⟩ = some (.int .i64 ((rd_T37 ((rd_T33 l0_0 x3_2).f6) x5_4).f4)) := (blk_cell BK105.out 4).trans rfl
                                              have hcz56_5 : wr.cell? ⟨gb105, 5, none⟩ = some (.slice A104_5 ((rd_T37 ((rd_T33 l0_0 x3_2).f6) x5_4).f5).length c104_5) := (blk_cell BK105.out 5).trans rfl
                                              have hfz56_0 := blk_frozen BK105.out 0
                                              have hfz56_1 := blk_frozen BK105.out 1
                                              have hfz56_2 := blk_frozen BK105.out 2
                                              have hfz56_3 := blk_frozen BK105.out 3
                                              have hfz56_4 := blk_frozen BK105.out 4
                                              have hfz56_5 := blk_frozen BK105.out 5
                                              have p106 : 0 ≤ (x7_6 : Int) := of_decide_eq_true (by first | (with_reducible assumption) | assumption)
                                              have q106 : x7_6 < (((rd_T37 ((rd_T33 l0_0 x3_2).f6) x5_4).f5).length : Int) := of_decide_eq_true (by first | (with_reducible assumption) | assumption)
                                              obtain ⟨ad106, A106_8, c106_8, e106, hx106_0, hx106_1, hx106_2, hx106_3, hx106_4, hx106_5, hx106_6, hx106_7, hx106_8, hl106_8, hi106_8⟩ := at_T74 HR104_5.out x7_6 p106 q106
                                              cases e106
                                              replace hx106_0 := (HB.out.cell (World.block_lt_of_cell? w _ hx106_0)).trans hx106_0
                                              replace hx106_1 := (HB.out.cell (World.block_lt_of_cell? w _ hx106_1)).trans hx106_1
                                              replace hx106_2 := (HB.out.cell (World.block_lt_of_cell? w _ hx106_2)).trans hx106_2
                                              replace hx106_3 := (HB.out.cell (World.block_lt_of_cell? w _ hx106_3)).trans hx106_3
                                              replace hx106_4 := (HB.out.cell (World.block_lt_of_cell? w _ hx106_4)).trans hx106_4
                                              replace hx106_5 := (HB.out.cell (World.block_lt_of_cell? w _ hx106_5)).trans hx106_5
                                              replace hx106_6 := (HB.out.cell (World.block_lt_of_cell? w _ hx106_6)).trans hx106_6
                                              replace hx106_7 := (HB.out.cell (World.block_lt_of_cell? w _ hx106_7)).trans hx106_7
                                              replace hx106_8 := (HB.out.cell (World.block_lt_of_cell? w _ hx106_8)).trans hx106_8
                                              have HR106_8 := Aside0.mk hi106_8
                                              have HC106_8 := Aside0.mk hl106_8
                                              clear hi106_8 hl106_8
                                              replace p106 := eq_true p106
                                              replace q106 := eq_true q106
                                              go_wp2
                                              go_ret
                                              exact ⟨by first | rfl | (simp [errW_none, errW_some] <;> rfl) | (simp [*, errW_none, errW_some] <;> rfl), by repeat (first | (with_reducible first | exact HB.out | apply below_alloc | apply pw_below_drewN | apply below_drew1 | refine below_set ?_ GE101.out | refine below_set ?_ GE103.out | refine below_set ?_ GE105.out) | exact HB.out)⟩
                                            · rw [if_neg c53] at H
                                              have c53b0 : decide (60 < (((rd_T74 ((rd_T37 ((rd_T33 l0_0 x3_2).f6) x5_4).f5) x7_6).f8).length : Int)) = false := decide_eq_false c53
                                              have c53b1 : decide (60 < ((rd_T74 ((rd_T37 ((rd_T33 l0_0 x3_2).f6) x5_4).f5) x7_6).f8).length) = false := decide_eq_false (by omega)
                                              clear c53
                                              by_cases c57 : (((rd_T74 ((rd_T37 ((rd_T33 l0_0 x3_2).f6) x5_4).f5) x7_6).f5).size : Int) > 300
                                              · rw [if_pos c57] at H
                                                have c57b0 : decide (300 < (((rd_T74 ((rd_T37 ((rd_T33 l0_0 x3_2).f6) x5_4).f5) x7_6).f5).size : Int)) = true := decide_eq_true c57
                                                have c57b1 : decide (300 < ((rd_T74 ((rd_T37 ((rd_T33 l0_0 x3_2).f6) x5_4).f5) x7_6).f5).size) = true := decide_eq_true (by omega)
                                                clear c57
                                                obtain rfl := Option.some.inj H
                                                have hnb58 := NB105_101.out
                                                have hnc58 := NB101_105.out
                                                have hnb59 := NB105_103.out
                                                have hnc59 := NB103_105.out
                                                have hcz60_0 : wr.cell? ⟨gb105, 0, none⟩ = some (.string ((rd_T37 ((rd_T33 l0_0 x3_2).f6) x5_4).f0)) := (blk_cell BK105.out 0).trans rfl
                                                have hcz60_1 : wr.cell? ⟨gb105, 1, none⟩ = some (.string ((rd_T37 ((rd_T33 l0_0 x3_2).f6) x5_4).f1)) := (blk_cell BK105.out 1).trans rfl
                                                have hcz60_2 : wr.cell? ⟨gb105, 2, none⟩ = some (.bool ((rd_T37 ((rd_T33 l0_0 x3_2).f6) x5_4).f2)) := (blk_cell BK105.out 2).trans rfl
                                                have hcz60_3 : wr.cell? ⟨gb105, 3, none⟩ = some (.bool ((rd_T37 ((rd_T33 l0_0 x3_2).f6) x5_4).f3)) := (blk_cell BK105.out 3).trans rfl
                                                have hcz60_4 : wr.cell? ⟨gb105, 4, none⟩ = some (.int .i64 ((rd_T37 ((rd_T33 l0_0 x3_2).f6) x5_4).f4)) := (blk_cell BK105.out 4).trans rfl
                                                have hcz60_5 : wr.cell? ⟨gb105, 5, none⟩ = some (.slice A104_5 ((rd_T37 ((rd_T33 l0_0 x3_2).f6) x5_4).f5).length c104_5) := (blk_cell BK105.out 5).trans rfl
                                                have hfz60_0 := blk_frozen BK105.out 0
                                                have hfz60_1 := blk_frozen BK105.out 1
                                                have hfz60_2 := blk_frozen BK105.out 2
                                                have hfz60_3 := blk_frozen BK105.out 3
                                                have hfz60_4 := blk_frozen BK105.out 4
                                                have hfz60_5 := blk_frozen BK105.out 5
                                                have p106 : 0 ≤ (x7_6 : Int) := of_decide_eq_true (by first | (with_reducible assumption) | assumption)
                                                have q106 : x7_6 < (((rd_T37 ((rd_T33 l0_0 x3_2).f6) x5_4).f5).length : Int) := of_decide_eq_true (by first | (with_reducible assumption) | assumption)
                                                obtain ⟨ad106, A106_8, c106_8, e106, hx106_0, hx106_1, hx106_2, hx106_3, hx106_4, hx106_5, hx106_6, hx106_7, hx106_8, hl106_8, hi106_8⟩ := at_T74 HR104_5.out x7_6 p106 q106
                                                cases e106
                                                replace hx106_0 := (HB.out.cell (World.block_lt_of_cell? w _ hx106_0)).trans hx106_0
                                                replace hx106_1 := (HB.out.cell (World.block_lt_of_cell? w _ hx106_1)).trans hx106_1
                                                replace hx106_2 := (HB.out.cell (World.block_lt_of_cell? w _ hx106_2)).trans hx106_2
                                                replace hx106_3 := (HB.out.cell (World.block_lt_of_cell? w _ hx106_3)).trans hx106_3
                                                replace hx106_4 := (HB.out.cell (World.block_lt_of_cell? w _ hx106_4)).trans hx106_4
                                                replace hx106_5 := (HB.out.cell (World.block_lt_of_cell? w _ hx106_5)).trans hx106_5
                                                replace hx106_6 := (HB.out.cell (World.block_lt_of_cell? w _ hx106_6)).trans hx106_6
                                                replace hx106_7 := (HB.out.cell (World.block_lt_of_cell? w _ hx106_7)).trans hx106_7
                                                replace hx106_8 := (HB.out.cell (World.block_lt_of_cell? w _ hx106_8)).trans hx106_8
                                                have HR106_8 := Aside0.mk hi106_8
                                                have HC106_8 := Aside0.mk hl106_8
                                                clear hi106_8 hl106_8
                                                replace p106 := eq_true p106
                                                replace q106 := eq_true q106
                                                have p107 : 0 ≤ (x7_6 : Int) := of_decide_eq_true (by first | (with_reducible assumption) | assumption)
                                                have q107 : x7_6 < (((rd_T37 ((rd_T33 l0_0 x3_2).f6) x5_4).f5).length : Int) := of_decide_eq_true (by first | (with_reducible assumption) | assumption)
                                                obtain ⟨ad107, A107_8, c107_8, e107, hx107_0, hx107_1, hx107_2, hx107_3, hx107_4, hx107_5, hx107_6, hx107_7, hx107_8, hl107_8, hi107_8⟩ := at_T74 HR104_5.out x7_6 p107 q107
                                                obtain rfl : ad106 = ad107 := (by injection e107)
                                                replace hx107_0 := (HB.out.cell (World.block_lt_of_cell? w _ hx107_0)).trans hx107_0
                                                replace hx107_1 := (HB.out.cell (World.block_lt_of_cell? w _ hx107_1)).trans hx107_1
                                                replace hx107_2 := (HB.out.cell (World.block_lt_of_cell? w _ hx107_2)).trans hx107_2
                                                replace hx107_3 := (HB.out.cell (World.block_lt_of_cell? w _ hx107_3)).trans hx107_3
                                                replace hx107_4 := (HB.out.cell (World.block_lt_of_cell? w _ hx107_4)).trans hx107_4
                                                replace hx107_5 := (HB.out.cell (World.block_lt_of_cell? w _ hx107_5)).trans hx107_5
                                                replace hx107_6 := (HB.out.cell (World.block_lt_of_cell? w _ hx107_6)).trans hx107_6
                                                replace hx107_7 := (HB.out.cell (World.block_lt_of_cell? w _ hx107_7)).trans hx107_7
                                                replace hx107_8 := (HB.out.cell (World.block_lt_of_cell? w _ hx107_8)).trans hx107_8
                                                have HR107_8 := Aside0.mk hi107_8
                                                have HC107_8 := Aside0.mk hl107_8
                                                clear hi107_8 hl107_8
                                                replace p107 := eq_true p107
                                                replace q107 := eq_true q107
                                                have ea_ := Option.some.inj (hx106_8.symm.trans hx107_8)
                                                injection ea_ with ea_ en_ ec_
                                                subst ea_
                                                subst ec_
                                                clear en_
                                                go_wp2
                                                go_ret
                                                exact ⟨by first | rfl | (simp [errW_none, errW_some] <;> rfl) | (simp [*, errW_none, errW_some] <;> rfl), by repeat (first | (with_reducible first | exact HB.out | apply below_alloc | apply pw_below_drewN | apply below_drew1 | refine below_set ?_ GE101.out | refine below_set ?_ GE103.out | refine below_set ?_ GE105.out) | exact HB.out)⟩
                                              · rw [if_neg c57] at H
                                                have c57b0 : decide (300 < (((rd_T74 ((rd_T37 ((rd_T33 l0_0 x3_2).f6) x5_4).f5) x7_6).f5).size : Int)) = false := decide_eq_false c57
                                                have c57b1 : decide (300 < ((rd_T74 ((rd_T37 ((rd_T33 l0_0 x3_2).f6) x5_4).f5) x7_6).f5).size) = false := decide_eq_false (by omega)
                                                clear c57
                                                by_cases c61 : (((rd_T74 ((rd_T37 ((rd_T33 l0_0 x3_2).f6) x5_4).f5) x7_6).f6).size : Int) > 300
                                                · rw [if_pos c61] at H
                                                  have c61b0 : decide (300 < (((rd_T74 ((rd_T37 ((rd_T33 l0_0 x3_2).f6) x5_4).f5) x7_6).f6).size : Int)) = true := decide_eq_true c61
                                                  have c61b1 : decide (300 < ((rd_T74 ((rd_T37 ((rd_T33 l0_0 x3_2).f6) x5_4).f5) x7_6).f6).size) = true := decide_eq_true (by omega)
                                                  clear c61
                                                  obtain rfl := Option.some.inj H
                                                  have hnb62 := NB105_101.out
                                                  have hnc62 := NB101_105.out
                                                  have hnb63 := NB105_103.out
                                                  have hnc63 := NB103_105.out
                                                  have hcz64_0 : wr.cell? ⟨gb105, 0, none⟩ = some (.string ((rd_T37 ((rd_T33 l0_0 x3_2).f6) x5_4).f0)) := (blk_cell BK105.out 0).trans rfl
                                                  have hcz64_1 : wr.cell? ⟨gb105, 1, none⟩ = some (.string ((rd_T37 ((rd_T33 l0_0 x3_2).f6) x5_4).f1)) := (blk_cell BK105.out 1).trans rfl
                                                  have hcz64_2 : wr.cell? ⟨gb105, 2, none⟩ = some (.bool ((rd_T37 ((rd_T33 l0_0 x3_2).f6) x5_4).f2)) := (blk_cell BK105.out 2).trans rfl
                                                  have hcz64_3 : wr.cell? ⟨gb105, 3, none⟩ = some (.bool ((rd_T37 ((rd_T33 l0_0 x3_2).f6) x5_4).f3)) := (blk_cell BK105.out 3).trans rfl
                                                  have hcz64_4 : wr.cell? ⟨gb105, 4, none⟩ = some (.int .i64 ((rd_T37 ((rd_T33 l0_0 x3_2).f6) x5_4).f4)) := (blk_cell BK105.out 4).trans rfl
                                                  have hcz64_5 : wr.cell? ⟨gb105, 5, none⟩ = some (.slice A104_5 ((rd_T37 ((rd_T33 l0_0 x3_2).f6) x5_4).f5).length c104_5) := (blk_cell BK105.out 5).trans rfl
                                                  have hfz64_0 := blk_frozen BK105.out 0
                                                  have hfz64_1 := blk_frozen BK105.out 1
                                                  have hfz64_2 := blk_frozen BK105.out 2
                                                  have hfz64_3 := blk_frozen BK105.out 3
                                                  have hfz64_4 := blk_frozen BK105.out 4
                                                  have hfz64_5 := blk_frozen BK105.out 5
                                                  have p106 : 0 ≤ (x7_6 : Int) := of_decide_eq_true (by first | (with_reducible assumption) | assumption)
                                                  have q106 : x7_6 < (((rd_T37 ((rd_T33 l0_0 x3_2).f6) x5_4).f5).length : Int) := of_decide_eq_true (by first | (with_reducible assumption) | assumption)
                                                  obtain ⟨ad106, A106_8, c106_8, e106, hx106_0, hx106_1, hx106_2, hx106_3, hx106_4, hx106_5, hx106_6, hx106_7, hx106_8, hl106_8, hi106_8⟩ := at_T74 HR104_5.out x7_6 p106 q106
                                                  cases e106
                                                  replace hx106_0 := (HB.out.cell (World.block_lt_of_cell? w _ hx106_0)).trans hx106_0
                                                  replace hx106_1 := (HB.out.cell (World.block_lt_of_cell? w _ hx106_1)).trans hx106_1
                                                  replace hx106_2 := (HB.out.cell (World.block_lt_of_cell? w _ hx106_2)).trans hx106_2
                                                  replace hx106_3 := (HB.out.cell (World.block_lt_of_cell? w _ hx106_3)).trans hx106_3
                                                  replace hx106_4 := (HB.out.cell (World.block_lt_of_cell? w _ hx106_4)).trans hx106_4
                                                  replace hx106_5 := (HB.out.cell (World.block_lt_of_cell? w _ hx106_5)).trans hx106_5
                                                  replace hx106_6 := (HB.out.cell (World.block_lt_of_cell? w _ hx106_6)).trans hx106_6
                                                  replace hx106_7 := (HB.out.cell (World.block_lt_of_cell? w _ hx106_7)).trans hx106_7
                                                  replace hx106_8 := (HB.out.cell (World.block_lt_of_cell? w _ hx106_8)).trans hx106_8
                                                  have HR106_8 := Aside0.mk hi106_8
                                                  have HC106_8 := Aside0.mk hl106_8
                                                  clear hi106_8 hl106_8
                                                  replace p106 := eq_true p106
                                                  replace q106 := eq_true q106
                                                  have p107 : 0 ≤ (x7_6 : Int) := of_decide_eq_true (by first | (with_reducible assumption) | assumption)
                                                  have q107 : x7_6 < (((rd_T37 ((rd_T33 l0_0 x3_2).f6) x5_4).f5).length : Int) := of_decide_eq_true (by first | (with_reducible assumption) | assumption)
                                                  obtain ⟨ad107, A107_8, c107_8, e107, hx107_0, hx107_1, hx107_2, hx107_3, hx107_4, hx107_5, hx107_6, hx107_7, hx107_8, hl107_8, hi107_8⟩ := at_T74 HR104_5.out x7_6 p107 q107
                                                  obtain rfl : ad106 = ad107 := (by injection e107)
                                                  replace hx107_0 := (HB.out.cell (World.block_lt_of_cell? w _ hx107_0)).trans hx107_0
                                                  replace hx107_1 := (HB.out.cell (World.block_lt_of_cell? w _ hx107_1)).trans hx107_1
                                                  replace hx107_2 := (HB.out.cell (World.block_lt_of_cell? w _ hx107_2)).trans hx107_2
                                                  replace hx107_3 := (HB.out.cell (World.block_lt_of_cell? w _ hx107_3)).trans hx107_3
                                                  replace hx107_4 := (HB.out.cell (World.block_lt_of_cell? w _ hx107_4)).trans hx107_4
                                                  replace hx107_5 := (HB.out.cell (World.block_lt_of_cell? w _ hx107_5)).trans hx107_5
                                                  replace hx107_6 := (HB.out.cell (World.block_lt_of_cell? w _ hx107_6)).trans hx107_6
                                                  replace hx107_7 := (HB.out.cell (World.block_lt_of_cell? w _ hx107_7)).trans hx107_7
                                                  replace hx107_8 := (HB.out.cell (World.block_lt_of_cell? w _ hx107_8)).trans hx107_8
                                                  have HR107_8 := Aside0.mk hi107_8
                                                  have HC107_8 := Aside0.mk hl107_8
                                                  clear hi107_8 hl107_8
                                                  replace p107 := eq_true p107
                                                  replace q107 := eq_true q107
                                                  have ea_ := Option.some.inj (hx106_8.symm.trans hx107_8)
                                                  injection ea_ with ea_ en_ ec_
                                                  subst ea_
                                                  subst ec_
                                                  clear en_
                                                  have p108 : 0 ≤ (x7_6 : Int) := of_decide_eq_true (by first | (with_reducible assumption) | assumption)
                                                  have q108 : x7_6 < (((rd_T37 ((rd_T33 l0_0 x3_2).f6) x5_4).f5).length : Int) := of_decide_eq_true (by first | (with_reducible assumption) | assumption)
                                                  obtain ⟨ad108, A108_8, c108_8, e108, hx108_0, hx108_1, hx108_2, hx108_3, hx108_4, hx108_5, hx108_6, hx108_7, hx108_8, hl108_8, hi108_8⟩ := at_T74 HR104_5.out x7_6 p108 q108
                                                  obtain rfl : ad106 = ad108 := (by injection e108)
                                                  replace hx108_0 := (HB.out.cell (World.block_lt_of_cell? w _ hx108_0)).trans hx108_0
                                                  replace hx108_1 := (HB.out.cell (World.block_lt_of_cell? w _ hx108_1)).trans hx108_1
                                                  replace hx108_2 := (HB.out.cell (World.block_lt_of_cell? w _ hx108_2)).trans hx108_2
                                                  replace hx108_3 := (HB.out.cell (World.block_lt_of_cell? w _ hx108_3)).trans hx108_3
                                                  replace hx108_4 := (HB.out.cell (World.block_lt_of_cell? w _ hx108_4)).trans hx108_4
                                                  replace hx108_5 := (HB.out.cell (World.block_lt_of_cell? w _ hx108_5)).trans hx108_5
                                                  replace hx108_6 := (HB.out.cell (World.block_lt_of_cell? w _ hx108_6)).trans hx108_6
                                                  replace hx108_7 := (HB.out.cell (World.block_lt_of_cell? w _ hx108_7)).trans hx108_7
                                                  replace hx108_8 := (HB.out.cell (World.block_lt_of_cell? w _ hx108_8)).trans hx108_8
                                                  have HR108_8 := Aside0.mk hi108_8
                                                  have HC108_8 := Aside0.mk hl108_8
                                                  clear hi108_8 hl108_8
                                                  replace p108 := eq_true p108
                                                  replace q108 := eq_true q108
                                                  have ea_ := Option.some.inj (hx106_8.symm.trans hx108_8)
                                                  injection ea_ with ea_ en_ ec_
                                                  subst ea_
                                                  subst ec_
                                                  clear en_
                                                  go_wp2
                                                  go_ret
                                                  exact ⟨by first | rfl | (simp [errW_none, errW_some] <;> rfl) | (simp [*, errW_none, errW_some] <;> rfl), by repeat (first | (with_reducible first | exact HB.out | apply below_alloc | apply pw_below_drewN | apply below_drew1 | refine below_set ?_ GE101.out | refine below_set ?_ GE103.out | refine below_set ?_ GE105.out) | exact HB.out)⟩
                                                · rw [if_neg c61] at H
                                                  have c61b0 : decide (300 < (((rd_T74 ((rd_T37 ((rd_T33 l0_0 x3_2).f6) x5_4).f5) x7_6).f6).size : Int)) = false := decide_eq_false c61
                                                  have c61b1 : decide (300 < ((rd_T74 ((rd_T37 ((rd_T33 l0_0 x3_2).f6) x5_4).f5) x7_6).f6).size) = false := decide_eq_false (by omega)
                                                  clear c61
                                                  by_cases c65 : (((rd_T74 ((rd_T37 ((rd_T33 l0_0 x3_2).f6) x5_4).f5) x7_6).f7).size : Int) > 300
                                                  · rw [if_pos c65] at H
                                                    have c65b0 : decide (300 < (((rd_T74 ((rd_T37 ((rd_T33 l0_0 x3_2).f6) x5_4).f5) x7_6).f7).size : Int)) = true := decide_eq_true c65
                                                    have c65b1 : decide (300 < ((rd_T74 ((rd_T37 ((rd_T33 l0_0 x3_2).f6) x5_4).f5) x7_6).f7).size) = true := decide_eq_true (by omega)
                                                    clear c65
                                                    obtain rfl := Option.some.inj H
                                                    have hnb66 := NB105_101.out
                                                    have hnc66 := NB101_105.out
                                                    have hnb67 := NB105_103.out
                                                    have hnc67 := NB103_105.out
                                                    have hcz68_0 : wr.cell? ⟨gb105, 0, none⟩ = some (.string ((rd_T37 ((rd_T33 l0_0 x3_2).f6) x5_4).f0)) := (blk_cell BK105.out 0).trans rfl
                                                    have hcz68_1 : wr.cell? ⟨gb105, 1, none⟩ = some (.string ((rd_T37 ((rd_T33 l0_0 x3_2).f6) x5_4).f1)) := (blk_cell BK105.out 1).trans rfl
                                                    have hcz68_2 : wr.cell? ⟨gb105, 2, none⟩ = some (.bool ((rd_T37 ((rd_T33 l0_0 x3_2).f6) x5_4).f2)) := (blk_cell BK105.out 2).trans rfl
                                                    have hcz68_3 : wr.cell? ⟨gb105, 3, none⟩ = some (.bool ((rd_T37 ((rd_T33 l0_0 x3_2).f6) x5_4).f3)) := (blk_cell BK105.out 3).trans rfl
                                                    have hcz68_4 : wr.cell? ⟨gb105, 4, none⟩ = some (.int .i64 ((rd_T37 ((rd_T33 l0_0 x3_2).f6) x5_4).f4)) := (blk_cell BK105.out 4).trans rfl
                                                    have hcz68_5 : wr.cell? ⟨gb105, 5, none⟩ = some (.slice A104_5 ((rd_T37 ((rd_T33 l0_0 x3_2).f6) x5_4).f5).length c104_5) := (blk_cell BK105.out 5).trans rfl
                                                    have hfz68_0 := blk_frozen BK105.out 0
                                                    have hfz68_1 := blk_frozen BK105.out 1
                                                    have hfz68_2 := blk_frozen BK105.out 2
                                                    have hfz68_3 := blk_frozen BK105.out 3
                                                    have hfz68_4 := blk_frozen BK105.out 4
                                                    have hfz68_5 := blk_frozen BK105.out 5
                                                    have p106 : 0 ≤ (x7_6 : Int) := of_decide_eq_true (by first | (with_reducible assumption) | assumption)
                                                    have q106 : x7_6 < (((rd_T37 ((rd_T33 l0_0 x3_2).f6) x5_4).f5).length : Int) := of_decide_eq_true (by first | (with_reducible assumption) | assumption)
                                                    obtain ⟨ad106, A106_8, c106_8, e106, hx106_0, hx106_1, hx106_2, hx106_3, hx106_4, hx106_5, hx106_6, hx106_7, hx106_8, hl106_8, hi106_8⟩ := at_T74 HR104_5.out x7_6 p106 q106
                                                    cases e106
                                                    replace hx106_0 := (HB.out.cell (World.block_lt_of_cell? w _ hx106_0)).trans hx106_0
                                                    replace hx106_1 := (HB.out.cell (World.block_lt_of_cell? w _ hx106_1)).trans hx106_1
                                                    replace hx106_2 := (HB.out.cell (World.block_lt_of_cell? w _ hx106_2)).trans hx106_2
                                                    replace hx106_3 := (HB.out.cell (World.block_lt_of_cell? w _ hx106_3)).trans hx106_3
                                                    replace hx106_4 := (HB.out.cell (World.block_lt_of_cell? w _ hx106_4)).trans hx106_4
                                                    replace hx106_5 := (HB.out.cell (World.block_lt_of_cell? w _ hx106_5)).trans hx106_5
                                                    replace hx106_6 := (HB.out.cell (World.block_lt_of_cell? w _ hx106_6)).trans hx106_6
                                                    replace hx106_7 := (HB.out.cell (World.block_lt_of_cell? w _ hx106_7)).trans hx106_7
                                                    replace hx106_8 := (HB.out.cell (World.block_lt_of_cell? w _ hx106_8)).trans hx106_8
                                                    have HR106_8 := Aside0.mk hi106_8
                                                    have HC106_8 := Aside0.mk hl106_8
                                                    clear hi106_8 hl106_8
                                                    replace p106 := eq_true p106
                                                    replace q106 := eq_true q106
                                                    have p107 : 0 ≤ (x7_6 : Int) := of_decide_eq_true (by first | (with_reducible assumption) | assumption)
                                                    have q107 : x7_6 < (((rd_T37 ((rd_T33 l0_0 x3_2).f6) x5_4).f5).length : Int) := of_decide_eq_true (by first | (with_reducible assumption) | assumption)
                                                    obtain ⟨ad107, A107_8, c107_8, e107, hx107_0, hx107_1, hx107_2, hx107_3, hx107_4, hx107_5, hx107_6, hx107_7, hx107_8, hl107_8, hi107_8⟩ := at_T74 HR104_5.out x7_6 p107 q107
                                                    obtain rfl : ad106 = ad107 := (by injection e107)
                                                    replace hx107_0 := (HB.out.cell (World.block_lt_of_cell? w _ hx107_0)).trans hx107_0
                                                    replace hx107_1 := (HB.out.cell (World.block_lt_of_cell? w _ hx107_1)).trans hx107_1
                                                    replace hx107_2 := (HB.out.cell (World.block_lt_of_cell? w _ hx107_2)).trans hx107_2
                                                    replace hx107_3 := (HB.out.cell (World.block_lt_of_cell? w _ hx107_3)).trans hx107_3
                                                    replace hx107_4 := (HB.out.cell (World.block_lt_of_cell? w _ hx107_4)).trans hx107_4
                                                    replace hx107_5 := (HB.out.cell (World.block_lt_of_cell? w _ hx107_5)).trans hx107_5
                                                    replace hx107_6 := (HB.out.cell (World.block_lt_of_cell? w _ hx107_6)).trans hx107_6
                                                    replace hx107_7 := (HB.out.cell (World.block_lt_of_cell? w _ hx107_7)).trans hx107_7
                                                    replace hx107_8 := (HB.out.cell (World.block_lt_of_cell? w _ hx107_8)).trans hx107_8
                                                    have HR107_8 := Aside0.mk hi107_8
                                                    have HC107_8 := Aside0.mk hl107_8
                                                    clear hi107_8 hl107_8
                                                    replace p107 := eq_true p107
                                                    replace q107 := eq_true q107
                                                    have ea_ := Option.some.inj (hx106_8.symm.trans hx107_8)
                                                    injection ea_ with ea_ en_ ec_
                                                    subst ea_
                                                    subst ec_
                                                    clear en_
                                                    have p108 : 0 ≤ (x7_6 : Int) := of_decide_eq_true (by first | (with_reducible assumption) | assumption)
                                                    have q108 : x7_6 < (((rd_T37 ((rd_T33 l0_0 x3_2).f6) x5_4).f5).length : Int) := of_decide_eq_true (by first | (with_reducible assumption) | assumption)
                                                    obtain ⟨ad108, A108_8, c108_8, e108, hx108_0, hx108_1, hx108_2, hx108_3, hx108_4, hx108_5, hx108_6, hx108_7, hx108_8, hl108_8, hi108_8⟩ := at_T74 HR104_5.out x7_6 p108 q108
                                                    obtain rfl : ad106 = ad108 := (by injection e108)
                                                    replace hx108_0 := (HB.out.cell (World.block_lt_of_cell? w _ hx108_0)).trans hx108_0
                                                    replace hx108_1 := (HB.out.cell (World.block_lt_of_cell? w _ hx108_1)).trans hx108_1
                                                    replace hx108_2 := (HB.out.cell (World.block_lt_of_cell? w _ hx108_2)).trans hx108_2
                                                    replace hx108_3 := (HB.out.cell (World.block_lt_of_cell? w _ hx108_3)).trans hx108_3
                                                    replace hx108_4 := (HB.out.cell (World.block_lt_of_cell? w _ hx108_4)).trans hx108_4
                                                    replace hx108_5 := (HB.out.cell (World.block_lt_of_cell? w _ hx108_5)).trans hx108_5
                                                    replace hx108_6 := (HB.out.cell (World.block_lt_of_cell? w _ hx108_6)).trans hx108_6
                                                    replace hx108_7 := (HB.out.cell (World.block_lt_of_cell? w _ hx108_7)).trans hx108_7
                                                    replace hx108_8 := (HB.out.cell (World.block_lt_of_cell? w _ hx108_8)).trans hx108_8
                                                    have HR108_8 := Aside0.mk hi108_8
                                                    have HC108_8 := Aside0.mk hl108_8
                                                    clear hi108_8 hl108_8
                                                    replace p108 := eq_true p108
                                                    replace q108 := eq_true q108
                                                    have ea_ := Option.some.inj (hx106_8.symm.trans hx108_8)
                                                    injection ea_ with ea_ en_ ec_
                                                    subst ea_
                                                    subst ec_
                                                    clear en_
                                                    have p109 : 0 ≤ (x7_6 : Int) := of_decide_eq_true (by first | (with_reducible assumption) | assumption)
                                                    have q109 : x7_6 < (((rd_T37 ((rd_T33 l0_0 x3_2).f6) x5_4).f5).length : Int) := of_decide_eq_true (by first | (with_reducible assumption) | assumption)
                                                    obtain ⟨ad109, A109_8, c109_8, e109, hx109_0, hx109_1, hx109_2, hx109_3, hx109_4, hx109_5, hx109_6, hx109_7, hx109_8, hl109_8, hi109_8⟩ := at_T74 HR104_5.out x7_6 p109 q109
                                                    obtain rfl : ad106 = ad109 := (by injection e109)
                                                    replace hx109_0 := (HB.out.cell (World.block_lt_of_cell? w _ hx109_0)).trans hx109_0
                                                    replace hx109_1 := (HB.out.cell (World.block_lt_of_cell? w _ hx109_1)).trans hx109_1
                                                    replace hx109_2 := (HB.out.cell (World.block_lt_of_cell? w _ hx109_2)).trans hx109_2
                                                    replace hx109_3 := (HB.out.cell (World.block_lt_of_cell? w _ hx109_3)).trans hx109_3
                                                    replace hx109_4 := (HB.out.cell (World.block_lt_of_cell? w _ hx109_4)).trans hx109_4
                                                    replace hx109_5 := (HB.out.cell (World.block_lt_of_cell? w _ hx109_5)).trans hx109_5
                                                    replace hx109_6 := (HB.out.cell (World.block_lt_of_cell? w _ hx109_6)).trans hx109_6
                                                    replace hx109_7 := (HB.out.cell (World.block_lt_of_cell? w _ hx109_7)).trans hx109_7
                                                    replace hx109_8 := (HB.out.cell (World.block_lt_of_cell? w _ hx109_8)).trans hx109_8
                                                    have HR109_8 := Aside0.mk hi109_8
                                                    have HC109_8 := Aside0.mk hl109_8
                                                    clear hi109_8 hl109_8
                                                    replace p109 := eq_true p109
                                                    replace q109 := eq_true q109
                                                    have ea_ := Option.some.inj (hx106_8.symm.trans hx109_8)
                                                    injection ea_ with ea_ en_ ec_
                                                    subst ea_
                                                    subst ec_
                                                    clear en_
                                                    go_wp2
                                                    go_ret
                                                    exact ⟨by first | rfl | (simp [errW_none, errW_some] <;> rfl) | (simp [*, errW_none, errW_some] <;> rfl), by repeat (first | (with_reducible first | exact HB.out | apply below_alloc | apply pw_below_drewN | apply below_drew1 | refine below_set ?_ GE101.out | refine below_set ?_ GE103.out | refine below_set ?_ GE105.out) | exact HB.out)⟩
                                                  · rw [if_neg c65] at H
                                                    have c65b0 : decide (300 < (((rd_T74 ((rd_T37 ((rd_T33 l0_0 x3_2).f6) x5_4).f5) x7_6).f7).size : Int)) = false := decide_eq_false c65
                                                    have c65b1 : decide (300 < ((rd_T74 ((rd_T37 ((rd_T33 l0_0 x3_2).f6) x5_4).f5) x7_6).f7).size) = false := decide_eq_false (by omega)
                                                    clear c65
                                                    have H' := Aside0.mk H
                                                    clear H
                                                    have hnb69 := NB105_101.out
                                                    have hnc69 := NB101_105.out
                                                    have hnb70 := NB105_103.out
                                                    have hnc70 := NB103_105.out
                                                    have hcz71_0 : wr.cell? ⟨gb105, 0, none⟩ = some (.string ((rd_T37 ((rd_T33 l0_0 x3_2).f6) x5_4).f0)) := (blk_cell BK105.out 0).trans rfl
                                                    have hcz71_1 : wr.cell? ⟨gb105, 1, none⟩ = some (.string ((rd_T37 ((rd_T33 l0_0 x3_2).f6) x5_4).f1)) := (blk_cell BK105.out 1).trans rfl
                                                    have hcz71_2 : wr.cell? ⟨gb105, 2, none⟩ = some (.bool ((rd_T37 ((rd_T33 l0_0 x3_2).f6) x5_4).f2)) := (blk_cell BK105.out 2).trans rfl
                                                    have hcz71_3 : wr.cell? ⟨gb105, 3, none⟩ = some (.bool ((rd_T37 ((rd_T33 l0_0 x3_2).f6) x5_4).f3)) := (blk_cell BK105.out 3).trans rfl
                                                    have hcz71_4 : wr.cell? ⟨gb105, 4, none⟩ = some (.int .i64 ((rd_T37 ((rd_T33 l0_0 x3_2).f6) x5_4).f4)) := (blk_cell BK105.out 4).trans rfl
                                                    have hcz71_5 : wr.cell? ⟨gb105, 5, none⟩ = some (.slice A104_5 ((rd_T37 ((rd_T33 l0_0 x3_2).f6) x5_4).f5).length c104_5) := (blk_cell BK105.out 5).trans rfl
                                                    have hfz71_0 := blk_frozen BK105.out 0
                                                    have hfz71_1 := blk_frozen BK105.out 1
                                                    have hfz71_2 := blk_frozen BK105.out 2
                                                    have hfz71_3 := blk_frozen BK105.out 3
                                                    have hfz71_4 := blk_frozen BK105.out 4
                                                    have hfz71_5 := blk_frozen BK105.out 5
                                                    have p106 : 0 ≤ (x7_6 : Int) := of_decide_eq_true (by first | (with_reducible assumption) | assumption)
                                                    have q106 : x7_6 < (((rd_T37 ((rd_T33 l0_0 x3_2).f6) x5_4).f5).length : Int) := of_decide_eq_true (by first | (with_reducible assumption) | assumption)
                                                    obtain ⟨ad106, A106_8, c106_8, e106, hx106_0, hx106_1, hx106_2, hx106_3, hx106_4, hx106_5, hx106_6, hx106_7, hx106_8, hl106_8, hi106_8⟩ := at_T74 HR104_5.out x7_6 p106 q106
                                                    cases e106
                                                    replace hx106_0 := (HB.out.cell (World.block_lt_of_cell? w _ hx106_0)).trans hx106_0
                                                    replace hx106_1 := (HB.out.cell (World.block_lt_of_cell? w _ hx106_1)).trans hx106_1
                                                    replace hx106_2 := (HB.out.cell (World.block_lt_of_cell? w _ hx106_2)).trans hx106_2
                                                    replace hx106_3 := (HB.out.cell (World.block_lt_of_cell? w _ hx106_3)).trans hx106_3
                                                    replace hx106_4 := (HB.out.cell (World.block_lt_of_cell? w _ hx106_4)).trans hx106_4
                                                    replace hx106_5 := (HB.out.cell (World.block_lt_of_cell? w _ hx106_5)).trans hx106_5
                                                    replace hx106_6 := (HB.out.cell (World.block_lt_of_cell? w _ hx106_6)).trans hx106_6
                                                    replace hx106_7 := (HB.out.cell (World.block_lt_of_cell? w _ hx106_7)).trans hx106_7
                                                    replace hx106_8 := (HB.out.cell (World.block_lt_of_cell? w _ hx106_8)).trans hx106_8
                                                    have HR106_8 := Aside0.mk hi106_8
                                                    have HC106_8 := Aside0.mk hl106_8
                                                    clear hi106_8 hl106_8
                                                    replace p106 := eq_true p106
                                                    replace q106 := eq_true q106
                                                    have p107 : 0 ≤ (x7_6 : Int) := of_decide_eq_true (by first | (with_reducible assumption) | assumption)
                                                    have q107 : x7_6 < (((rd_T37 ((rd_T33 l0_0 x3_2).f6) x5_4).f5).length : Int) := of_decide_eq_true (by first | (with_reducible assumption) | assumption)
                                                    obtain ⟨ad107, A107_8, c107_8, e107, hx107_0, hx107_1, hx107_2, hx107_3, hx107_4, hx107_5, hx107_6, hx107_7, hx107_8, hl107_8, hi107_8⟩ := at_T74 HR104_5.out x7_6 p107 q107
                                                    obtain rfl : ad106 = ad107 := (by injection e107)
                                                    replace hx107_0 := (HB.out.cell (World.block_lt_of_cell? w _ hx107_0)).trans hx107_0
                                                    replace hx107_1 := (HB.out.cell (World.block_lt_of_cell? w _ hx107_1)).trans hx107_1
                                                    replace hx107_2 := (HB.out.cell (World.block_lt_of_cell? w _ hx107_2)).trans hx107_2
                                                    replace hx107_3 := (HB.out.cell (World.block_lt_of_cell? w _ hx107_3)).trans hx107_3
                                                    replace hx107_4 := (HB.out.cell (World.block_lt_of_cell? w _ hx107_4)).trans hx107_4
                                                    replace hx107_5 := (HB.out.cell (World.block_lt_of_cell? w _ hx107_5)).trans hx107_5
                                                    replace hx107_6 := (HB.out.cell (World.block_lt_of_cell? w _ hx107_6)).trans hx107_6
                                                    replace hx107_7 := (HB.out.cell (World.block_lt_of_cell? w _ hx107_7)).trans hx107_7
                                                    replace hx107_8 := (HB.out.cell (World.block_lt_of_cell? w _ hx107_8)).trans hx107_8
                                                    have HR107_8 := Aside0.mk hi107_8
                                                    have HC107_8 := Aside0.mk hl107_8
                                                    clear hi107_8 hl107_8
                                                    replace p107 := eq_true p107
                                                    replace q107 := eq_true q107
                                                    have ea_ := Option.some.inj (hx106_8.symm.trans hx107_8)
                                                    injection ea_ with ea_ en_ ec_
                                                    subst ea_
                                                    subst ec_
                                                    clear en_
                                                    have p108 : 0 ≤ (x7_6 : Int) := of_decide_eq_true (by first | (with_reducible assumption) | assumption)
                                                    have q108 : x7_6 < (((rd_T37 ((rd_T33 l0_0 x3_2).f6) x5_4).f5).length : Int) := of_decide_eq_true (by first | (with_reducible assumption) | assumption)
                                                    obtain ⟨ad108, A108_8, c108_8, e108, hx108_0, hx108_1, hx108_2, hx108_3, hx108_4, hx108_5, hx108_6, hx108_7, hx108_8, hl108_8, hi108_8⟩ := at_T74 HR104_5.out x7_6 p108 q108
                                                    obtain rfl : ad106 = ad108 := (by injection e108)
                                                    replace hx108_0 := (HB.out.cell (World.block_lt_of_cell? w _ hx108_0)).trans hx108_0
                                                    replace hx108_1 := (HB.out.cell (World.block_lt_of_cell? w _ hx108_1)).trans hx108_1
                                                    replace hx108_2 := (HB.out.cell (World.block_lt_of_cell? w _ hx108_2)).trans hx108_2
                                                    replace hx108_3 := (HB.out.cell (World.block_lt_of_cell? w _ hx108_3)).trans hx108_3
                                                    replace hx108_4 := (HB.out.cell (World.block_lt_of_cell? w _ hx108_4)).trans hx108_4
                                                    replace hx108_5 := (HB.out.cell (World.block_lt_of_cell? w _ hx108_5)).trans hx108_5
                                                    replace hx108_6 := (HB.out.cell (World.block_lt_of_cell? w _ hx108_6)).trans hx108_6
                                                    replace hx108_7 := (HB.out.cell (World.block_lt_of_cell? w _ hx108_7)).trans hx108_7
                                                    replace hx108_8 := (HB.out.cell (World.block_lt_of_cell? w _ hx108_8)).trans hx108_8
                                                    have HR108_8 := Aside0.mk hi108_8
                                                    have HC108_8 := Aside0.mk hl108_8
                                                    clear hi108_8 hl108_8
                                                    replace p108 := eq_true p108
                                                    replace q108 := eq_true q108
                                                    have ea_ := Option.some.inj (hx106_8.symm.trans hx108_8)
                                                    injection ea_ with ea_ en_ ec_
                                                    subst ea_
                                                    subst ec_
                                                    clear en_
                                                    have p109 : 0 ≤ (x7_6 : Int) := of_decide_eq_true (by first | (with_reducible assumption) | assumption)
                                                    have q109 : x7_6 < (((rd_T37 ((rd_T33 l0_0 x3_2).f6) x5_4).f5).length : Int) := of_decide_eq_true (by first | (with_reducible assumption) | assumption)
                                                    obtain ⟨ad109, A109_8, c109_8, e109, hx109_0, hx109_1, hx109_2, hx109_3, hx109_4, hx109_5, hx109_6, hx109_7, hx109_8, hl109_8, hi109_8⟩ := at_T74 HR104_5.out x7_6 p109 q109
                                                    obtain rfl : ad106 = ad109 := (by injection e109)
                                                    replace hx109_0 := (HB.out.cell (World.block_lt_of_cell? w _ hx109_0)).trans hx109_0
                                                    replace hx109_1 := (HB.out.cell (World.block_lt_of_cell? w _ hx109_1)).trans hx109_1
                                                    replace hx109_2 := (HB.out.cell (World.block_lt_of_cell? w _ hx109_2)).trans hx109_2
                                                    replace hx109_3 := (HB.out.cell (World.block_lt_of_cell? w _ hx109_3)).trans hx109_3
                                                    replace hx109_4 := (HB.out.cell (World.block_lt_of_cell? w _ hx109_4)).trans hx109_4
                                                    replace hx109_5 := (HB.out.cell (World.block_lt_of_cell? w _ hx109_5)).trans hx109_5
                                                    replace hx109_6 := (HB.out.cell (World.block_lt_of_cell? w _ hx109_6)).trans hx109_6
                                                    replace hx109_7 := (HB.out.cell (World.block_lt_of_cell? w _ hx109_7)).trans hx109_7
                                                    replace hx109_8 := (HB.out.cell (World.block_lt_of_cell? w _ hx109_8)).trans hx109_8
                                                    have HR109_8 := Aside0.mk hi109_8
                                                    have HC109_8 := Aside0.mk hl109_8
                                                    clear hi109_8 hl109_8
                                                    replace p109 := eq_true p109
                                                    replace q109 := eq_true q109
                                                    have ea_ := Option.some.inj (hx106_8.symm.trans hx109_8)
                                                    injection ea_ with ea_ en_ ec_
                                                    subst ea_
                                                    subst ec_
                                                    clear en_
                                                    go_wp2
                                                    go_roundg k6
                                                    case measure => have := HJ1.out; have := HK2.out; have := HJ9.out; have := HK4.out; have := HJ31.out; have := HK6.out; omega
                                                    case rel => exact ⟨(wrap64 (x7_6 + 1)), (by first | rfl | (simp; done) | (simp [*]; done)), H', ⟨by have := HJ1.out; have := HK2.out; have := HJ9.out; have := HK4.out; have := HJ31.out; have := HK6.out; omega⟩, ⟨by (with_reducible repeat (first | refine blk_drewN ?_ _ | refine blk_drew ?_ | refine blk_alloc ?_ _)); exact BK101.out⟩, ⟨by (with_reducible repeat (first | refine blk_drewN ?_ _ | refine blk_drew ?_ | refine blk_alloc ?_ _)); exact BK103.out⟩, ⟨by (with_reducible repeat (first | refine blk_drewN ?_ _ | refine blk_drew ?_ | refine blk_alloc ?_ _)); exact BK105.out⟩, ⟨by repeat (first | (with_reducible first | exact HB.out | apply below_alloc | apply pw_below_drewN | apply below_drew1 | refine below_set ?_ GE101.out | refine below_set ?_ GE103.out | refine below_set ?_ GE105.out) | exact HB.out)⟩⟩
                                          · rw [if_neg c52] at H
                                            exact absurd H (by simp)
                                        · rw [if_neg c51] at H
                                          have c51b0 : decide (x7_6 < (((rd_T37 ((rd_T33 l0_0 x3_2).f6) x5_4).f5).length : Int)) = false := decide_eq_false c51
                                          clear c51
                                          have H' := Aside0.mk H
                                          clear H
                                          have hnb72 := NB105_101.out
                                          have hnc72 := NB101_105.out
                                          have hnb73 := NB105_103.out
                                          have hnc73 := NB103_105.out
                                          have hcz74_0 : wr.cell? ⟨gb105, 0, none⟩ = some (.string ((rd_T37 ((rd_T33 l0_0 x3_2).f6) x5_4).f0)) := (blk_cell BK105.out 0).trans rfl
                                          have hcz74_1 : wr.cell? ⟨gb105, 1, none⟩ = some (.string ((rd_T37 ((rd_T33 l0_0 x3_2).f6) x5_4).f1)) := (blk_cell BK105.out 1).trans rfl
                                          have hcz74_2 : wr.cell? ⟨gb105, 2, none⟩ = some (.bool ((rd_T37 ((rd_T33 l0_0 x3_2).f6) x5_4).f2)) := (blk_cell BK105.out 2).trans rfl
                                          have hcz74_3 : wr.cell? ⟨gb105, 3, none⟩ = some (.bool ((rd_T37 ((rd_T33 l0_0 x3_2).f6) x5_4).f3)) := (blk_cell BK105.out 3).trans rfl
                                          have hcz74_4 : wr.cell? ⟨gb105, 4, none⟩ = some (.int .i64 ((rd_T37 ((rd_T33 l0_0 x3_2).f6) x5_4).f4)) := (blk_cell BK105.out 4).trans rfl
                                          have hcz74_5 : wr.cell? ⟨gb105, 5, none⟩ = some (.slice A104_5 ((rd_T37 ((rd_T33 l0_0 x3_2).f6) x5_4).f5).length c104_5) := (blk_cell BK105.out 5).trans rfl
                                          have hfz74_0 := blk_frozen BK105.out 0
                                          have hfz74_1 := blk_frozen BK105.out 1
                                          have hfz74_2 := blk_frozen BK105.out 2
                                          have hfz74_3 := blk_frozen BK105.out 3
                                          have hfz74_4 := blk_frozen BK105.out 4
                                          have hfz74_5 := blk_frozen BK105.out 5
                                          go_wp2
                                          go_roundg k6
                                          case measure => have := HJ1.out; have := HK2.out; have := HJ9.out; have := HK4.out; have := HJ31.out; have := HK6.out; omega
                                          case rel => exact ⟨(wrap64 (x5_4 + 1)), (by first | rfl | (simp; done) | (simp [*]; done)), H', ⟨by have := HJ1.out; have := HK2.out; have := HJ9.out; have := HK4.out; have := HJ31.out; have := HK6.out; omega⟩, ⟨by (with_reducible repeat (first | refine blk_drewN ?_ _ | refine blk_drew ?_ | refine blk_alloc ?_ _)); exact BK101.out⟩, ⟨by (with_reducible repeat (first | refine blk_drewN ?_ _ | refine blk_drew ?_ | refine blk_alloc ?_ _)); exact BK103.out⟩, ⟨by repeat (first | (with_reducible first | exact HB.out | apply below_alloc | apply pw_below_drewN | apply below_drew1 | refine below_set ?_ GE101.out | refine below_set ?_ GE103.out | refine below_set ?_ GE105.out) | exact HB.out)⟩⟩
                            · rw [if_neg c31] at H
                              exact absurd H (by simp)
                          · rw [if_neg c30] at H
                            have c30b0 : decide (x5_4 < (((rd_T33 l0_0 x3_2).f6).length : Int)) = false := decide_eq_false c30
                            clear c30
                            have H' := Aside0.mk H
                            clear H
                            have hnb75 := NB103_101.out
                            have hnc75 := NB101_103.out
                            have hcz76_0 : wr.cell? ⟨gb103, 0, none⟩ = some (.string ((rd_T33 l0_0 x3_2).f0)) := (blk_cell BK103.out 0).trans rfl
                            have hcz76_1 : wr.cell? ⟨gb103, 1, none⟩ = some (.string ((rd_T33 l0_0 x3_2).f1)) := (blk_cell BK103.out 1).trans rfl
                            have hcz76_2 : wr.cell? ⟨gb103, 2, none⟩ = some (.bool ((rd_T33 l0_0 x3_2).f2)) := (blk_cell BK103.out 2).trans rfl
                            have hcz76_3 : wr.cell? ⟨gb103, 3, none⟩ = some (.bool ((rd_T33 l0_0 x3_2).f3)) := (blk_cell BK103.out 3).trans rfl
                            have hcz76_4 : wr.cell? ⟨gb103, 4, none⟩ = some (.slice A102_4 ((rd_T33 l0_0 x3_2).f4).length c102_4) := (blk_cell BK103.out 4).trans rfl
                            have hcz76_5 : wr.cell? ⟨gb103, 5, none⟩ = some (.slice A102_5 ((rd_T33 l0_0 x3_2).f5).length c102_5) := (blk_cell BK103.out 5).trans rfl
                            have hcz76_6 : wr.cell? ⟨gb103, 6, none⟩ = some (.slice A102_6 ((rd_T33 l0_0 x3_2).f6).length c102_6) := (blk_cell BK103.out 6).trans rfl
                            have hfz76_0 := blk_frozen BK103.out 0
                            have hfz76_1 := blk_frozen BK103.out 1
                            have hfz76_2 := blk_frozen BK103.out 2
                            have hfz76_3 := blk_frozen BK103.out 3
                            have hfz76_4 := blk_frozen BK103.out 4
                            have hfz76_5 := blk_frozen BK103.out 5
                            have hfz76_6 := blk_frozen BK103.out 6
                            go_wp2
                            go_roundg k4
                            case measure => have := HJ1.out; have := HK2.out; have := HJ9.out; have := HK4.out; omega
                            case rel => exact ⟨(wrap64 (x3_2 + 1)), (by first | rfl | (simp; done) | (simp [*]; done)), H', ⟨by have := HJ1.out; have := HK2.out; have := HJ9.out; have := HK4.out; omega⟩, ⟨by (with_reducible repeat (first | refine blk_drewN ?_ _ | refine blk_drew ?_ | refine blk_alloc ?_ _)); exact BK101.out⟩, ⟨by repeat (first | (with_reducible first | exact HB.out | apply below_alloc | apply pw_below_drewN | apply below_drew1 | refine below_set ?_ GE101.out | refine below_set ?_ GE103.out) | exact HB.out)⟩⟩
              · rw [if_neg c9] at H
                exact absurd H (by simp)
            · rw [if_neg c8] at H
              have c8b0 : decide (x3_2 < (l0_0.length : Int)) = false := decide_eq_false c8
              clear c8
              obtain rfl := Option.some.inj H
              have hcz77_0 : wr.cell? ⟨gb101, 0, none⟩ = some (.slice A0_0 l0_0.length c0_0) := (blk_cell BK101.out 0).trans rfl
              have hcz77_1 : wr.cell? ⟨gb101, 1, none⟩ = some (.slice A0_1 l0_1.length c0_1) := (blk_cell BK101.out 1).trans rfl
              have hcz77_2 : wr.cell? ⟨gb101, 2, none⟩ = some (.string a0_2) := (blk_cell BK101.out 2).trans rfl
              have hcz77_3 : wr.cell? ⟨gb101, 3, none⟩ = some (.string a0_3) := (blk_cell BK101.out 3).trans rfl
              have hcz77_4 : wr.cell? ⟨gb101, 4, none⟩ = some (.string a0_4) := (blk_cell BK101.out 4).trans rfl
              have hfz77_0 := blk_frozen BK101.out 0
              have hfz77_1 := blk_frozen BK101.out 1
              have hfz77_2 := blk_frozen BK101.out 2
              have hfz77_3 := blk_frozen BK101.out 3
              have hfz77_4 := blk_frozen BK101.out 4
              go_wp2
              go_ret
              exact ⟨by first | rfl | (simp [errW_none, errW_some] <;> rfl) | (simp [*, errW_none, errW_some] <;> rfl), by repeat (first | (with_reducible first | exact HB.out | apply below_alloc | apply pw_below_drewN | apply below_drew1 | refine below_set ?_ GE101.out) | exact HB.out)⟩
end Go.Proofs.Ytfplcohjnlbfjaa.PTopNearest
end

section
namespace Go.Proofs.Ytfplcohjnlbfjaa.PTopNearest
open Go.RowKit Go.Proofs.YtfplcohjnlbfjaaW.PrintWords Go.Proofs.YtfplcohjnlbfjaaW.PrintLast Go.Proofs.YtfplcohjnlbfjaaW.PrintMore Go.Proofs.Ytfplcohjnlbfjaa.Hand
attribute [local go_sem] max2_int min2_int max_two min_two max_three min_three max_four min_four   -- for this text's walks alone
set_option linter.unusedVariables false
set_option linter.unusedSimpArgs false
end Go.Proofs.Ytfplcohjnlbfjaa.PTopNearest
end

section
namespace Go.Proofs.Ytfplcohjnlbfjaa.PTopNearest
open Go.RowKit Go.Proofs.YtfplcohjnlbfjaaW.PrintWords Go.Proofs.YtfplcohjnlbfjaaW.PrintLast Go.Proofs.YtfplcohjnlbfjaaW.PrintMore Go.Proofs.Ytfplcohjnlbfjaa.Hand
attribute [local go_sem] max2_int min2_int max_two min_two max_three min_three max_four min_four   -- for this text's walks alone
set_option linter.unusedVariables false
set_option linter.unusedSimpArgs false
end Go.Proofs.Ytfplcohjnlbfjaa.PTopNearest
end

section
namespace Go.Proofs.Ytfplcohjnlbfjaa.Pure
open Go.RowKit Go.Proofs.Ytfplcohjnlbfjaa.PTopNearest Go.Proofs.Ytfplcohjnlbfjaa.Hand Go.Proofs.YtfplcohjnlbfjaaW.PrintWords Go.Proofs.YtfplcohjnlbfjaaW.PrintLast
set_option linter.unusedVariables false
theorem wrapN (i : Nat) (h : i < 1000) : wrap64 ((i : Int) + 1) = ((i + 1 : Nat) : Int) := by
  unfold wrap64
  omega
theorem g2 (x3 x5 : Int) (p0 : List S33) (p1 : List ByteArray) (p2 p3 p4 : ByteArray) (c0 c1 : ByteArray) (c2 c3 : Bool) (c4 : List ByteArray) (c5 : List S103) (c6 : List S37) (m0 m1 : ByteArray) (m2 m3 : Bool) (m4 : Int) (m5 : List S74) (hl : m5.length ≤ 300) (H : ∃ k r, secateurlaw08_Great.l1 k x3 (wrap64 (x5 + 1)) p0 p1 p2 p3 p4 c0 c1 c2 c3 c4 c5 c6 = some r) :
    ∀ (d i : Nat), i + d = m5.length → ∃ k r, secateurlaw08_Great.l2 k x3 x5 (i : Int) p0 p1 p2 p3 p4 c0 c1 c2 c3 c4 c5 c6 m0 m1 m2 m3 m4 m5 = some r
  | 0, i, hi => by
    obtain ⟨k, r, h⟩ := H
    exact ⟨k + 1, r, by rw [secateurlaw08_Great.l2, if_neg (by omega)]; exact h⟩
  | d + 1, i, hi => by
    obtain ⟨k, r, h⟩ := g2 x3 x5 p0 p1 p2 p3 p4 c0 c1 c2 c3 c4 c5 c6 m0 m1 m2 m3 m4 m5 hl H d (i + 1) (by omega)
    by_cases q1 : (((rd_T74 m5 (i : Int)).f8).length : Int) > 60
    · exact ⟨1, true, by rw [secateurlaw08_Great.l2, if_pos (by omega), if_pos (by omega), if_pos q1]⟩
    by_cases q2 : (((rd_T74 m5 (i : Int)).f5).size : Int) > 300
    · exact ⟨1, true, by rw [secateurlaw08_Great.l2, if_pos (by omega), if_pos (by omega), if_neg q1, if_pos q2]⟩
    by_cases q3 : (((rd_T74 m5 (i : Int)).f6).size : Int) > 300
    · exact ⟨1, true, by rw [secateurlaw08_Great.l2, if_pos (by omega), if_pos (by omega), if_neg q1, if_neg q2, if_pos q3]⟩
    by_cases q4 : (((rd_T74 m5 (i : Int)).f7).size : Int) > 300
    · exact ⟨1, true, by rw [secateurlaw08_Great.l2, if_pos (by omega), if_pos (by omega), if_neg q1, if_neg q2, if_neg q3, if_pos q4]⟩
    exact ⟨k + 1, r, by rw [secateurlaw08_Great.l2, if_pos (by omega), if_pos (by omega), if_neg q1, if_neg q2, if_neg q3, if_neg q4, wrapN i (by omega)]; exact h⟩
theorem g1 (x3 : Int) (p0 : List S33) (p1 : List ByteArray) (p2 p3 p4 : ByteArray) (c0 c1 : ByteArray) (c2 c3 : Bool) (c4 : List ByteArray) (c5 : List S103) (c6 : List S37) (hl : c6.length ≤ 40) (H : ∃ k r, secateurlaw08_Great.l0 k (wrap64 (x3 + 1)) p0 p1 p2 p3 p4 = some r) :
    ∀ (d i : Nat), i + d = c6.length → ∃ k r, secateurlaw08_Great.l1 k x3 (i : Int) p0 p1 p2 p3 p4 c0 c1 c2 c3 c4 c5 c6 = some r
  | 0, i, hi => by
    obtain ⟨k, r, h⟩ := H
    exact ⟨k + 1, r, by rw [secateurlaw08_Great.l1, if_neg (by omega)]; exact h⟩
  | d + 1, i, hi => by
    have ih := g1 x3 p0 p1 p2 p3 p4 c0 c1 c2 c3 c4 c5 c6 hl H d (i + 1) (by omega)
    rw [← wrapN i (by omega)] at ih
    by_cases q1 : (((rd_T37 c6 (i : Int)).f5).length : Int) > 300
    · exact ⟨2, true, by rw [secateurlaw08_Great.l1, if_pos (by omega), if_pos (by omega), if_pos q1, secateurlaw08_Great.j4, if_pos rfl]⟩
    obtain ⟨k, r, h⟩ := g2 x3 (i : Int) p0 p1 p2 p3 p4 c0 c1 c2 c3 c4 c5 c6 ((rd_T37 c6 (i : Int)).f0) ((rd_T37 c6 (i : Int)).f1) ((rd_T37 c6 (i : Int)).f2) ((rd_T37 c6 (i : Int)).f3) ((rd_T37 c6 (i : Int)).f4) ((rd_T37 c6 (i : Int)).f5) (by omega) ih _ 0 (Nat.zero_add _)
    by_cases q2 : (((rd_T37 c6 (i : Int)).f0).size : Int) > 300
    · exact ⟨2, true, by rw [secateurlaw08_Great.l1, if_pos (by omega), if_pos (by omega), if_neg q1, if_pos q2, secateurlaw08_Great.j4, if_pos rfl]⟩
    by_cases q3 : (((rd_T37 c6 (i : Int)).f1).size : Int) > 300
    · exact ⟨2, true, by rw [secateurlaw08_Great.l1, if_pos (by omega), if_pos (by omega), if_neg q1, if_neg q2, decide_eq_true q3, secateurlaw08_Great.j4, if_pos rfl]⟩
    exact ⟨k + 2, r, by rw [secateurlaw08_Great.l1, if_pos (by omega), if_pos (by omega), if_neg q1, if_neg q2, decide_eq_false q3, secateurlaw08_Great.j4, if_neg (by decide)]; exact h⟩
theorem g0 (p0 : List S33) (p1 : List ByteArray) (p2 p3 p4 : ByteArray) (hl : p0.length ≤ 70) : ∀ (d i : Nat), i + d = p0.length → ∃ k r, secateurlaw08_Great.l0 k (i : Int) p0 p1 p2 p3 p4 = some r
  | 0, i, hi => ⟨1, false, by rw [secateurlaw08_Great.l0, if_neg (by omega)]⟩
  | d + 1, i, hi => by
    have ih := g0 p0 p1 p2 p3 p4 hl d (i + 1) (by omega)
    rw [← wrapN i (by omega)] at ih
    by_cases q1 : (((rd_T33 p0 (i : Int)).f4).length : Int) > 40
    · exact ⟨2, true, by rw [secateurlaw08_Great.l0, if_pos (by omega), if_pos (by omega), if_pos q1, secateurlaw08_Great.j2, if_pos rfl]⟩
    by_cases q2 : (((rd_T33 p0 (i : Int)).f5).length : Int) > 40
    · exact ⟨2, true, by rw [secateurlaw08_Great.l0, if_pos (by omega), if_pos (by omega), if_neg q1, if_pos q2, secateurlaw08_Great.j2, if_pos rfl]⟩
    by_cases q3 : (((rd_T33 p0 (i : Int)).f6).length : Int) > 40
    · exact ⟨2, true, by rw [secateurlaw08_Great.l0, if_pos (by omega), if_pos (by omega), if_neg q1, if_neg q2, if_pos q3, secateurlaw08_Great.j2, if_pos rfl]⟩
    obtain ⟨k, r, h⟩ := g1 (i : Int) p0 p1 p2 p3 p4 ((rd_T33 p0 (i : Int)).f0) ((rd_T33 p0 (i : Int)).f1) ((rd_T33 p0 (i : Int)).f2) ((rd_T33 p0 (i : Int)).f3) ((rd_T33 p0 (i : Int)).f4) ((rd_T33 p0 (i : Int)).f5) ((rd_T33 p0 (i : Int)).f6) (by omega) ih _ 0 (Nat.zero_add _)
    by_cases q4 : (((rd_T33 p0 (i : Int)).f0).size : Int) > 300
    · exact ⟨2, true, by rw [secateurlaw08_Great.l0, if_pos (by omega), if_pos (by omega), if_neg q1, if_neg q2, if_neg q3, if_pos q4, secateurlaw08_Great.j2, if_pos rfl]⟩
    by_cases q5 : (((rd_T33 p0 (i : Int)).f1).size : Int) > 300
    · exact ⟨2, true, by rw [secateurlaw08_Great.l0, if_pos (by omega), if_pos (by omega), if_neg q1, if_neg q2, if_neg q3, if_neg q4, decide_eq_true q5, secateurlaw08_Great.j2, if_pos rfl]⟩
    exact ⟨k + 2, r, by rw [secateurlaw08_Great.l0, if_pos (by omega), if_pos (by omega), if_neg q1, if_neg q2, if_neg q3, if_neg q4, decide_eq_false q5, secateurlaw08_Great.j2, if_neg (by decide)]; exact h⟩
theorem great_ends (p0 : List S33) (p1 : List ByteArray) (p2 p3 p4 : ByteArray) : ∃ k r, secateurlaw08_Great.f k p0 p1 p2 p3 p4 = some r ∧ (r = false → p0.length ≤ 70) := by
  unfold secateurlaw08_Great.f
  by_cases q1 : (p0.length : Int) > 70
  · exact ⟨1, true, by rw [if_pos q1, secateurlaw08_Great.j0, if_pos rfl], fun h => by cases h⟩
  obtain ⟨k, r, h⟩ := g0 p0 p1 p2 p3 p4 (by omega) _ 0 (Nat.zero_add _)
  by_cases q2 : (p1.length : Int) > 70
  · exact ⟨1, true, by rw [if_neg q1, decide_eq_true q2, secateurlaw08_Great.j0, if_pos rfl], fun h => by cases h⟩
  exact ⟨k + 1, r, by rw [if_neg q1, decide_eq_false q2, secateurlaw08_Great.j0, if_neg (by decide)]; exact h, fun _ => by omega⟩
end Go.Proofs.Ytfplcohjnlbfjaa.Pure
end
