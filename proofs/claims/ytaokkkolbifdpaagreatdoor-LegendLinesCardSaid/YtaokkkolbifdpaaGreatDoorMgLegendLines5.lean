import Derived.Test.YtaokkkolbifdpaaGreatDoorMgLegendLines4
import Derived.Deep.RegionWith
import Derived.Test.YtaokkkolbifdpaaGreatDoorMgLegendLines1
import Derived.Test.YtaokkkolbifdpaaGreatDoorProg
import Derived.Below
import Derived.Deep.Draws
import Derived.Deep.AppendLies
import Derived.Maps.AppendAt
import Derived.OwnWalk
import Derived.Laws.BytesArg
import Derived.Laws.MakeOwn
import Derived.Laws.OwnMore
import Derived.Deep.OwnRows
import Derived.Tactics
import Derived.Lib.ConvBytes
import Derived.Laws.Slices
import Derived.WalkKit
import Derived.KernelRfl
import Derived.RowKit3
import Derived.Deep.LoopGhost
import Derived.Deep.QuietTactic
import Derived.BigQuiet
import Derived.WideLaws
import Derived.Deep.DeepCutAuto
import Derived.Deep.CutBlock
import Derived.Deep.RegionHeld3
import Derived.Laws.Rows
import Derived.Lib.AppendStr
import Derived.ArgAppend
import Derived.Laws.IdiomCopy
import Derived.OrdersHeld
import Derived.Laws.BitsLemmas
import Derived.RowKit
import Derived.Test.YtaokkkolbifdpaaGreatDoorMgLegendLines0
import Derived.Test.YtaokkkolbifdpaaGreatDoorMgLegendLines3
section
namespace Go.Proofs.YtaokkkolbifdpaaGreatDoor.Hand
open Go.RowKit Go.Proofs.YtaokkkolbifdpaaGreatDoorW.PrintWords Go.Proofs.YtaokkkolbifdpaaGreatDoorW.PrintLast Go.Proofs.YtaokkkolbifdpaaGreatDoorW.PrintMore
set_option linter.unusedVariables false
set_option linter.unusedSimpArgs false
theorem one_pair {w : World} {g : Nat} {x : S23} (h : w.heap[g]? = some (Obj.cells #[.string x.f0, .string x.f1] 23 (0, 0))) : Kd.C k23 w (some ⟨g, 0, none⟩) [x].length [x] := by
  refine ⟨rfl, by simp, fun _ => ⟨⟨g, 0, none⟩, rfl, fun j p hj => ?_⟩⟩
  have hj0 : j = 0 := by
    have := (List.getElem?_eq_some_iff.1 hj).1
    simp at this
    omega
  subst hj0
  obtain rfl : x = p := by simpa using hj
  refine ⟨[.string x.f0, .string x.f1], rfl, k23_mk w x, fun i u hu => ?_⟩
  have hb := blk_cell h i
  have e : (#[.string x.f0, .string x.f1] : Array Value)[i]? = some u := by rw [List.getElem?_toArray]; exact hu
  rw [e] at hb
  have ha : (⟨g, 0, none⟩ : Addr).add (0 * 2 + i) = ⟨g, i, none⟩ := by rw [Nat.zero_mul, Nat.zero_add]; exact add_plain g i
  exact ha ▸ hb
theorem okM_fix : okM ([fixC], [], [fixM]) 1048576 := ⟨by decide, fun x hx => by rw [List.mem_singleton.1 hx]; exact ⟨by decide, by decide⟩, fun x hx => by simp at hx, fun x hx => by rw [List.mem_singleton.1 hx]; exact ⟨by decide, by decide⟩⟩
structure Q6 (W : World) (gC gX gM gN gF gE gP : Nat) (A0 A1 A2 : Option Addr) (c0 c1 c2 : Nat) : Prop where
  m : W.heap[gM]? = some (Obj.cells #[.slice (some ⟨gC, 0, none⟩) 1 1, .slice none 0 0, .slice (some ⟨gX, 0, none⟩) 1 1] 34 (0, 0))
  n : W.heap[gN]? = some (Obj.cells #[.slice A0 1 c0, .slice A1 0 c1, .slice A2 1 c2] 34 (0, 0))
  f : W.heap[gF]? = some (Obj.cells #[.int .i64 0, .int .i64 0] 40 (0, 0))
  e : W.heap[gE]? = some (Obj.cells #[.int .i64 1, .int .i64 1] 40 (0, 0))
  p : W.heap[gP]? = some (Obj.cells #[.string ⟨#[109, 40, 73, 41, 86]⟩, .string ⟨#[36, 48]⟩] 23 (0, 0))
  x : W.heap[gX]? = some (Obj.cells #[.string ⟨#[109, 40, 73, 41, 86]⟩, .string ⟨#[36, 48]⟩] 23 (0, 0))
  c : W.heap[gC]? = some (Obj.cells #[.string fixC.f0, .string fixC.f1] 23 (0, 0))
  r0 : Kd.C k23 W A0 [fixC].length [fixC]
  r1 : Kd.C k23 W A1 ([] : List S23).length []
  r2 : Kd.C k23 W A2 [fixM].length [fixM]
  mx : MaxL W
theorem Q6.below {W W' : World} {gC gX gM gN gF gE gP : Nat} {A0 A1 A2 : Option Addr} {c0 c1 c2 : Nat} (h : Q6 W gC gX gM gN gF gE gP A0 A1 A2 c0 c1 c2) (hb : Below W.heap.size W W') : Q6 W' gC gX gM gN gF gE gP A0 A1 A2 c0 c1 c2 :=
  ⟨blk_below h.m hb, blk_below h.n hb, blk_below h.f hb, blk_below h.e hb, blk_below h.p hb, blk_below h.x hb, blk_below h.c hb, Kd.C_below h.r0 hb, Kd.C_below h.r1 hb, Kd.C_below h.r2 hb, h.mx.below hb⟩
theorem Q6.S {W : World} {gC gX gM gN gF gE gP : Nat} {A0 A1 A2 : Option Addr} {c0 c1 c2 : Nat} (h : Q6 W gC gX gM gN gF gE gP A0 A1 A2 c0 c1 c2) :
    W.cell? ⟨gM, 0, none⟩ = some (.slice (some ⟨gC, 0, none⟩) 1 1) ∧ W.cell? ⟨gM, 1, none⟩ = some (.slice none 0 0) ∧ W.cell? ⟨gM, 2, none⟩ = some (.slice (some ⟨gX, 0, none⟩) 1 1) ∧
    W.cell? ⟨gN, 0, none⟩ = some (.slice A0 1 c0) ∧ W.cell? ⟨gN, 1, none⟩ = some (.slice A1 0 c1) ∧ W.cell? ⟨gN, 2, none⟩ = some (.slice A2 1 c2) ∧
    W.cell? ⟨gF, 0, none⟩ = some (.int .i64 0) ∧ W.cell? ⟨gF, 1, none⟩ = some (.int .i64 0) ∧ W.cell? ⟨gE, 0, none⟩ = some (.int .i64 1) ∧ W.cell? ⟨gE, 1, none⟩ = some (.int .i64 1) ∧
    W.cell? ⟨gP, 0, none⟩ = some (.string ⟨#[109, 40, 73, 41, 86]⟩) ∧ W.cell? ⟨gP, 1, none⟩ = some (.string ⟨#[36, 48]⟩) ∧ W.cell? ⟨gX, 0, none⟩ = some (.string ⟨#[109, 40, 73, 41, 86]⟩) ∧ W.cell? ⟨gX, 1, none⟩ = some (.string ⟨#[36, 48]⟩) :=
  ⟨blk_cell h.m 0, blk_cell h.m 1, blk_cell h.m 2, blk_cell h.n 0, blk_cell h.n 1, blk_cell h.n 2, blk_cell h.f 0, blk_cell h.f 1, blk_cell h.e 0, blk_cell h.e 1, blk_cell h.p 0, blk_cell h.p 1, blk_cell h.x 0, blk_cell h.x 1⟩
theorem same_call {W : World} {gC gX gM gN gF gE gP : Nat} {A0 A1 A2 : Option Addr} {c0 c1 c2 : Nat} (h : Q6 W gC gX gM gN gF gE gP A0 A1 A2 c0 c1 c2) (h0 : 1 ≤ c0) (h2 : 1 ≤ c2) :
    Calls Tryz.prog 17 #[.agg #[.slice (some ⟨gC, 0, none⟩) 1 1, .slice none 0 0, .slice (some ⟨gX, 0, none⟩) 1 1], .agg #[.slice A0 1 c0, .slice A1 0 c1, .slice A2 1 c2]] W fun e w' => e = .returned (.bool true) ∧ Below W.heap.size W w' :=
  Q33.secateurref29_Same.calls 2 (some ⟨gC, 0, none⟩) 1 [fixC] none 0 [] (some ⟨gX, 0, none⟩) 1 [fixM] A0 c0 [fixC] A1 c1 [] A2 c2 [fixM] true W (one_pair h.c) (Nat.le_refl _) (Kd.C_nil _ _) (Nat.le_refl _) (one_pair (x := fixM) h.x) (Nat.le_refl _) h.r0 h0 h.r1 (Nat.zero_le _) h.r2 h2 fix_same
theorem line_call1 (W : World) (hM : MaxL W) : Calls Tryz.prog 9 #[.string ⟨#[102, 105, 101, 108, 100]⟩, .agg #[.string ⟨#[102]⟩, .string ⟨#[103]⟩]] W fun e w' => e = .returned (.string ⟨#[102, 105, 101, 108, 100, 32, 102, 32, 103]⟩) ∧ Below W.heap.size W w' := by
  have h := Q32.legend_Line.calls 1 ⟨#[102, 105, 101, 108, 100]⟩ ⟨#[102]⟩ ⟨#[103]⟩ _ W hM (legLine_eq _ _ _ (by decide) (by decide))
  rw [show lineS (bl ⟨#[102, 105, 101, 108, 100]⟩) (bl ⟨#[102]⟩, bl ⟨#[103]⟩) = [102, 105, 101, 108, 100, 32, 102, 32, 103] from fix_line] at h
  exact h
theorem line_call2 (W : World) (hM : MaxL W) : Calls Tryz.prog 9 #[.string ⟨#[120]⟩, .agg #[.string ⟨#[109, 40, 73, 41, 86]⟩, .string ⟨#[36, 48]⟩]] W fun e w' => e = .returned (.string ⟨#[]⟩) ∧ Below W.heap.size W w' := by
  have h := Q32.legend_Line.calls 1 ⟨#[120]⟩ ⟨#[109, 40, 73, 41, 86]⟩ ⟨#[36, 48]⟩ _ W hM (legLine_eq _ _ _ (by decide) (by decide))
  rw [show lineS (bl ⟨#[120]⟩) (bl ⟨#[109, 40, 73, 41, 86]⟩, bl ⟨#[36, 48]⟩) = [] from no_line _] at h
  exact h
set_option maxHeartbeats 32000000 in
set_option maxRecDepth 20000 in
theorem legend_sure (w : World) (hM : MaxL w) : Calls Tryz.prog 6 #[] w fun e w' => e = .returned (.bool true) ∧ Below w.heap.size w w' := by
  have hb1 := below_alloc (below_alloc (below_alloc (Below.refl w.heap.size w) (Obj.cells #[.string fixC.f0, .string fixC.f1] 23)) (Obj.cells #[.string fixM.f0, .string fixM.f1] 23)) (Obj.cells #[.slice (some ⟨w.heap.size, 0, none⟩) 1 1, .slice none 0 0, .slice (some ⟨w.heap.size + 1, 0, none⟩) 1 1] 34)
  have g1 := blk_alloc (blk_alloc (World.alloc_heap_new w (Obj.cells #[.string fixC.f0, .string fixC.f1] 23)) (Obj.cells #[.string fixM.f0, .string fixM.f1] 23)) (Obj.cells #[.slice (some ⟨w.heap.size, 0, none⟩) 1 1, .slice none 0 0, .slice (some ⟨w.heap.size + 1, 0, none⟩) 1 1] 34)
  have g2 := World.alloc_heap_new (w.alloc (Obj.cells #[.string fixC.f0, .string fixC.f1] 23)) (Obj.cells #[.string fixM.f0, .string fixM.f1] 23)
  rw [World.size_alloc] at g2
  have g2 := blk_alloc g2 (Obj.cells #[.slice (some ⟨w.heap.size, 0, none⟩) 1 1, .slice none 0 0, .slice (some ⟨w.heap.size + 1, 0, none⟩) 1 1] 34)
  have g3 := World.alloc_heap_new ((w.alloc (Obj.cells #[.string fixC.f0, .string fixC.f1] 23)).alloc (Obj.cells #[.string fixM.f0, .string fixM.f1] 23)) (Obj.cells #[.slice (some ⟨w.heap.size, 0, none⟩) 1 1, .slice none 0 0, .slice (some ⟨w.heap.size + 1, 0, none⟩) 1 1] 34)
  rw [World.size_alloc, World.size_alloc] at g3
  have HPr := Aside0.mk (legend_print' (some ⟨w.heap.size, 0, none⟩) 1 [fixC] none 0 [] (some ⟨w.heap.size + 1, 0, none⟩) 1 [fixM] _ (one_pair g1) (Nat.le_refl _) (Kd.C_nil _ _) (Nat.le_refl _) (one_pair g2) (Nat.le_refl _) okM_fix (hM.below hb1))
  rw [fix_print] at HPr
  obtain ⟨t, ht⟩ : ∃ t, t = lb fixT := ⟨_, rfl⟩
  have htl : t.toList = fixT := by rw [ht, toList_bl, bl_lb]
  have hbt : bl t = fixT := by rw [ht, bl_lb]
  have HPa := Aside0.mk (fun W (h : MaxL W) => legend_parse t (by rw [size_of_bl hbt]; decide) W h)
  rw [hbt, fix_parse] at HPa
  have HPb := Aside0.mk (fun W (h : MaxL W) => legend_parse ⟨#[99, 108, 97, 115, 115, 32, 65, 10]⟩ (by decide) W h)
  rw [show bl (⟨#[99, 108, 97, 115, 115, 32, 65, 10]⟩ : ByteArray) = [99, 108, 97, 115, 115, 32, 65, 10] from rfl, bad_parse] at HPb
  have HRd : Aside0 (∀ W, MaxL W → Calls Tryz.prog 7 #[.string ⟨#[109, 101, 116, 104, 111, 100, 32, 109, 32, 40, 73, 41, 86, 32, 36, 48]⟩] W fun e w' => e = .returned (.tuple #[.string ⟨#[109, 101, 116, 104, 111, 100]⟩, .agg #[.string ⟨#[109, 40, 73, 41, 86]⟩, .string ⟨#[36, 48]⟩], .bool true]) ∧ Below W.heap.size W w') := ⟨fun W h => by
    have h1 := read_call ⟨#[109, 101, 116, 104, 111, 100, 32, 109, 32, 40, 73, 41, 86, 32, 36, 48]⟩ (by decide) W h
    rw [show bl (⟨#[109, 101, 116, 104, 111, 100, 32, 109, 32, 40, 73, 41, 86, 32, 36, 48]⟩ : ByteArray) = [109, 101, 116, 104, 111, 100, 32, 109, 32, 40, 73, 41, 86, 32, 36, 48] from rfl, fix_read] at h1
    exact h1⟩
  rw [← ht] at HPr
  have HG1 := Aside0.mk g1
  have HG2 := Aside0.mk g2
  have HG3 := Aside0.mk g3
  have HB1 := Aside0.mk hb1
  have HM1 := Aside0.mk (hM.below hb1)
  have t1 : (t.toList == ([99, 108, 97, 115, 115, 32, 65, 108, 112, 104, 97, 32, 36, 10, 109, 101, 116, 104, 111, 100, 32, 109, 32, 40, 73, 41, 86, 32, 36, 48, 10] : List UInt8)) = true := by rw [htl]; rfl
  clear ht htl hbt hM g1 g2 g3 hb1
  go_enter Tryz.func6, Tryz.ntmps6
  go_wp2_with fail
  refine HPr.out.mono ?_
  rintro e w2 ⟨rfl, hb⟩
  have HB2 := Aside0.mk (below_step HB1.out hb)
  have HG12 := Aside0.mk (blk_below HG1.out hb)
  have HG22 := Aside0.mk (blk_below HG2.out hb)
  have HG32 := Aside0.mk (blk_below HG3.out hb)
  have HM2 := Aside0.mk (HM1.out.below hb)
  clear hb
  go_wp2_with fail
  refine (HPa.out _ HM2.out).mono ?_
  rintro e w3 ⟨v0, v1, v2, rfl, hR0, hR1, hR2, hb⟩
  obtain ⟨A0, c0, rfl, hc0, hC0⟩ := Kd.R_reads hR0
  obtain ⟨A1, c1, rfl, hc1, hC1⟩ := Kd.R_reads hR1
  obtain ⟨A2, c2, rfl, hc2, hC2⟩ := Kd.R_reads hR2
  have HB3 := Aside0.mk (below_step HB2.out hb)
  have HG13 := Aside0.mk (blk_below HG12.out hb)
  have HG23 := Aside0.mk (blk_below HG22.out hb)
  have HG33 := Aside0.mk (blk_below HG32.out hb)
  have HM3 := Aside0.mk (HM2.out.below hb)
  have HCC := Aside0.mk (And.intro hC0 (And.intro hC1 hC2))
  have HcC := Aside0.mk (And.intro hc0 (And.intro hc1 hc2))
  clear hb hR0 hR1 hR2 hC0 hC1 hC2 hc0 hc1 hc2
  go_wp2_with fail
  have HN3 := Aside0.mk (blk_alloc (World.alloc_heap_new w3 (Obj.cells #[.slice A0 1 c0, .slice A1 0 c1, .slice A2 1 c2] 34)) (Obj.cells #[.int .i64 0, .int .i64 0] 40))
  have hf3 := World.alloc_heap_new (w3.alloc (Obj.cells #[.slice A0 1 c0, .slice A1 0 c1, .slice A2 1 c2] 34)) (Obj.cells #[.int .i64 0, .int .i64 0] 40)
  rw [World.size_alloc] at hf3
  have HF3 := Aside0.mk hf3
  clear hf3
  have HW3 := Aside0.mk (below_alloc (below_alloc (Below.refl w3.heap.size w3) (Obj.cells #[.slice A0 1 c0, .slice A1 0 c1, .slice A2 1 c2] 34)) (Obj.cells #[.int .i64 0, .int .i64 0] 40))
  refine (HPb.out _ (HM3.out.below HW3.out)).mono ?_
  rintro e w4 ⟨u0, u1, u2, rfl, hR0, hR1, hR2, hb⟩
  obtain ⟨B0, d0, rfl, _, _⟩ := Kd.R_reads hR0
  obtain ⟨B1, d1, rfl, _, _⟩ := Kd.R_reads hR1
  obtain ⟨B2, d2, rfl, _, _⟩ := Kd.R_reads hR2
  have hb4 := below_step HW3.out hb
  have HB4 := Aside0.mk (below_step HB3.out hb4)
  have HN4 := Aside0.mk (blk_below HN3.out hb)
  have HF4 := Aside0.mk (blk_below HF3.out hb)
  have HG14 := Aside0.mk (blk_below HG13.out hb4)
  have HG24 := Aside0.mk (blk_below HG23.out hb4)
  have HG34 := Aside0.mk (blk_below HG33.out hb4)
  have HM4 := Aside0.mk (HM3.out.below hb4)
  have HC4 := Aside0.mk hb4
  clear hb hb4 hR0 hR1 hR2 HN3 HF3 HG13 HG23 HG33
  go_wp2_with fail
  have HW4 := Aside0.mk (below_alloc (below_alloc (Below.refl w4.heap.size w4) (Obj.cells #[.slice B0 0 d0, .slice B1 0 d1, .slice B2 0 d2] 34)) (Obj.cells #[.int .i64 1, .int .i64 1] 40))
  have hf4 := World.alloc_heap_new (w4.alloc (Obj.cells #[.slice B0 0 d0, .slice B1 0 d1, .slice B2 0 d2] 34)) (Obj.cells #[.int .i64 1, .int .i64 1] 40)
  rw [World.size_alloc] at hf4
  refine (HRd.out _ (HM4.out.below HW4.out)).mono ?_
  rintro e w5 ⟨rfl, hb⟩
  have hb5 := below_step HW4.out hb
  have HB5 := Aside0.mk (below_step HB4.out hb5)
  have HN5 := Aside0.mk (blk_below HN4.out hb5)
  have HF5 := Aside0.mk (blk_below HF4.out hb5)
  have HE5 := Aside0.mk (blk_below hf4 hb)
  have HG15 := Aside0.mk (blk_below HG14.out hb5)
  have HG25 := Aside0.mk (blk_below HG24.out hb5)
  have HG35 := Aside0.mk (blk_below HG34.out hb5)
  have HM5 := Aside0.mk (HM4.out.below hb5)
  have HC5 := Aside0.mk (below_step HC4.out hb5)
  clear hb hb5 hf4
  go_wp2_with fail
  have hz := below_alloc (Below.refl w5.heap.size w5) (Obj.cells #[.string ⟨#[109, 40, 73, 41, 86]⟩, .string ⟨#[36, 48]⟩] 23)
  have hq6 : Q6 (w5.alloc (Obj.cells #[.string ⟨#[109, 40, 73, 41, 86]⟩, .string ⟨#[36, 48]⟩] 23)) w.heap.size (w.heap.size + 1) (w.heap.size + 1 + 1) w3.heap.size (w3.heap.size + 1) (w4.heap.size + 1) w5.heap.size A0 A1 A2 c0 c1 c2 :=
    ⟨blk_alloc HG35.out _, blk_alloc HN5.out _, blk_alloc HF5.out _, blk_alloc HE5.out _, World.alloc_heap_new w5 _, blk_alloc HG25.out _, blk_alloc HG15.out _, Kd.C_below HCC.out.1 (below_step HC5.out hz), Kd.C_below HCC.out.2.1 (below_step HC5.out hz), Kd.C_below HCC.out.2.2 (below_step HC5.out hz), HM5.out.below hz⟩
  have HQ6 := Aside0.mk hq6
  have HB6 := Aside0.mk (below_step HB5.out hz)
  have HSame := Aside0.mk (fun (W : World) (h : Q6 W w.heap.size (w.heap.size + 1) (w.heap.size + 1 + 1) w3.heap.size (w3.heap.size + 1) (w4.heap.size + 1) w5.heap.size A0 A1 A2 c0 c1 c2) => same_call h (show 1 ≤ c0 from HcC.out.1) (show 1 ≤ c2 from HcC.out.2.2))
  have e40 : ∀ W, (binOp .eql 40 (.agg #[.int .i64 0, .int .i64 0]) (.agg #[.int .i64 0, .int .i64 0])).run Tryz.prog W = .ok (.bool true) W := fun W => by kernel_rfl
  have e41 : ∀ W, (binOp .eql 40 (.agg #[.int .i64 1, .int .i64 1]) (.agg #[.int .i64 1, .int .i64 1])).run Tryz.prog W = .ok (.bool true) W := fun W => by kernel_rfl
  have e23 : ∀ W, (binOp .eql 23 (.agg #[.string ⟨#[109, 40, 73, 41, 86]⟩, .string ⟨#[36, 48]⟩]) (.agg #[.string ⟨#[109, 40, 73, 41, 86]⟩, .string ⟨#[36, 48]⟩])).run Tryz.prog W = .ok (.bool true) W := fun W => by kernel_rfl
  clear hz hq6 HN5 HF5 HE5 HG15 HG25 HG35
  obtain ⟨w6, hw6⟩ : ∃ W, w5.alloc (Obj.cells #[.string ⟨#[109, 40, 73, 41, 86]⟩, .string ⟨#[36, 48]⟩] 23) = W := ⟨_, rfl⟩
  rw [hw6] at HQ6 HB6 ⊢
  clear hw6
  go_region_held3 (fun w' => w'.cell? ⟨w.heap.size + 1 + 1, 0, none⟩ = some (.slice (some ⟨w.heap.size, 0, none⟩) 1 1) ∧ w'.cell? ⟨w.heap.size + 1 + 1, 1, none⟩ = some (.slice none 0 0) ∧ w'.cell? ⟨w.heap.size + 1 + 1, 2, none⟩ = some (.slice (some ⟨w.heap.size + 1, 0, none⟩) 1 1) ∧ w'.cell? ⟨w3.heap.size, 0, none⟩ = some (.slice A0 1 c0) ∧ w'.cell? ⟨w3.heap.size, 1, none⟩ = some (.slice A1 0 c1) ∧ w'.cell? ⟨w3.heap.size, 2, none⟩ = some (.slice A2 1 c2) ∧ w'.cell? ⟨w3.heap.size + 1, 0, none⟩ = some (.int .i64 0) ∧ w'.cell? ⟨w3.heap.size + 1, 1, none⟩ = some (.int .i64 0) ∧ w'.cell? ⟨w4.heap.size + 1, 0, none⟩ = some (.int .i64 1) ∧ w'.cell? ⟨w4.heap.size + 1, 1, none⟩ = some (.int .i64 1) ∧ w'.cell? ⟨w5.heap.size, 0, none⟩ = some (.string ⟨#[109, 40, 73, 41, 86]⟩) ∧ w'.cell? ⟨w5.heap.size, 1, none⟩ = some (.string ⟨#[36, 48]⟩) ∧ w'.cell? ⟨w.heap.size + 1, 0, none⟩ = some (.string ⟨#[109, 40, 73, 41, 86]⟩) ∧ w'.cell? ⟨w.heap.size + 1, 1, none⟩ = some (.string ⟨#[36, 48]⟩)) (first | with_reducible exact (HQ6.out.below (below_drew1 (Below.refl _ _))).S | with_reducible exact HQ7.out.S | with_reducible exact HQ8.out.S | with_reducible exact HQ9.out.S | fail "keep") ((first
    | (go_at_call 17; (with_reducible refine (HSame.out _ (HQ6.out.below (below_drew1 (Below.refl _ _)))).mono ?_); rintro e w7 ⟨rfl, hb⟩; have hb_ := below_step (below_drew1 (Below.refl w6.heap.size w6)) hb; have HQ7 := Aside0.mk (HQ6.out.below hb_); have HB7 := Aside0.mk (below_step HB6.out hb_); clear hb hb_)
    | (go_at_call 9; (with_reducible refine (line_call1 _ HQ7.out.mx).mono ?_); rintro e w8 ⟨rfl, hb⟩; have HQ8 := Aside0.mk (HQ7.out.below hb); have HB8 := Aside0.mk (below_step HB7.out hb); clear hb)
    | (go_at_call 9; (with_reducible refine (line_call2 _ HQ8.out.mx).mono ?_); rintro e w9 ⟨rfl, hb⟩; have HQ9 := Aside0.mk (HQ8.out.below hb); have HB9 := Aside0.mk (below_step HB8.out hb); clear hb)))
  go_wp2_with fail
  exact bodyPost_ret (results_tmp rfl _ _ _) rfl ⟨rfl, HB9.out⟩
end Go.Proofs.YtaokkkolbifdpaaGreatDoor.Hand
end

section
namespace Go.Proofs.YtaokkkolbifdpaaGreatDoor.Hand
open Go.RowKit Go.Proofs.YtaokkkolbifdpaaGreatDoorW.PrintWords Go.Proofs.YtaokkkolbifdpaaGreatDoorW.PrintLast Go.Proofs.YtaokkkolbifdpaaGreatDoorW.PrintMore
set_option linter.unusedVariables false
set_option linter.unusedSimpArgs false
def legend_Line.f (what old new : ByteArray) : Option ByteArray := if old.size ≤ 1048576 ∧ new.size ≤ 1048576 then some (lb (lineS (bl what) (bl old, bl new))) else none
theorem legend_Line.calls (a0 : ByteArray) (a1_0 : ByteArray) (a1_1 : ByteArray) (r : ByteArray) (w : World) (hGMaxL : MaxL w) (h : legend_Line.f a0 a1_0 a1_1 = some r) :
    Calls Tryz.prog 9 #[.string a0, .agg #[.string a1_0, .string a1_1]] w fun e w' => e = .returned (.string r) ∧ Below w.heap.size w w' := by
  unfold legend_Line.f at h
  split at h
  · rename_i hs
    exact Q32.legend_Line.calls 1 a0 a1_0 a1_1 r w hGMaxL ((legLine_eq a0 a1_0 a1_1 hs.1 hs.2).trans h)
  · cases h
def legend_Read.f (s : ByteArray) : Option (ByteArray × ByteArray × ByteArray × Bool) := if s.size ≤ 1048576 then some (legOut (readS (bl s))) else none
theorem legend_Read.calls (a0 : ByteArray) (r1 : ByteArray) (r2 : ByteArray) (r3 : ByteArray) (r4 : Bool) (w : World) (hGMaxL : MaxL w) (h : legend_Read.f a0 = some (r1, r2, r3, r4)) :
    Calls Tryz.prog 7 #[.string a0] w fun e w' => e = .returned (.tuple #[.string r1, .agg #[.string r2, .string r3], .bool r4]) ∧ Below w.heap.size w w' := by
  unfold legend_Read.f at h
  split at h
  · rename_i hs
    exact Q32.legend_Read.calls 1 a0 r1 r2 r3 r4 w hGMaxL ((legRead_eq a0 hs).trans h)
  · cases h
def secateurlaw30_sure.f : Option Bool := some true
theorem secateurlaw30_sure.calls (r : Bool) (w : World) (hGMaxL : MaxL w) (h : secateurlaw30_sure.f = some r) :
    Calls Tryz.prog 6 #[] w fun e w' => e = .returned (.bool r) ∧ Below w.heap.size w w' := by
  cases h
  exact legend_sure w hGMaxL
end Go.Proofs.YtaokkkolbifdpaaGreatDoor.Hand
end

section
namespace Go.Proofs.YtaokkkolbifdpaaGreatDoor.Q31
open Go.RowKit Go.Proofs.YtaokkkolbifdpaaGreatDoorW.PrintWords Go.Proofs.YtaokkkolbifdpaaGreatDoorW.PrintLast Go.Proofs.YtaokkkolbifdpaaGreatDoorW.PrintMore Go.Proofs.YtaokkkolbifdpaaGreatDoor.Hand
attribute [local go_sem] max2_int min2_int max_two min_two max_three min_three max_four min_four   -- for this text's walks alone
set_option linter.unusedVariables false
set_option linter.unusedSimpArgs false
def errW : Option Int → Value
  | none => .nilIface
  | some c => .iface 0 (.int .i64 c)
theorem errW_none : errW none = .nilIface := rfl
theorem errW_some (c : Int) : errW (some c) = .iface 0 (.int .i64 c) := rfl
end Go.Proofs.YtaokkkolbifdpaaGreatDoor.Q31
end

section
namespace Go.Proofs.YtaokkkolbifdpaaGreatDoor.Q31
open Go.RowKit Go.Proofs.YtaokkkolbifdpaaGreatDoorW.PrintWords Go.Proofs.YtaokkkolbifdpaaGreatDoorW.PrintLast Go.Proofs.YtaokkkolbifdpaaGreatDoorW.PrintMore Go.Proofs.YtaokkkolbifdpaaGreatDoor.Hand
attribute [local go_sem] max2_int min2_int max_two min_two max_three min_three max_four min_four   -- for this text's walks alone
set_option linter.unusedVariables false
set_option linter.unusedSimpArgs false
def secateurref30_cut.l0 : Nat → ByteArray → Int → Option (ByteArray × ByteArray)
  | 0, _, _ => none
  | k + 1, x0, x4 => if x4 < (x0.size : Int) then (if 0 ≤ x4 then (if (bt x0 x4) = 40 then (if x4 ≤ (x0.size : Int) then (some (x0.extract 0 (x4 : Int).toNat, x0.extract (x4 : Int).toNat x0.size)) else (none)) else (secateurref30_cut.l0 k x0 (wrap64 (x4 + 1)))) else (none)) else (some (x0, (⟨#[]⟩ : ByteArray)))
def secateurref30_cut.f (k : Nat) (a0 : ByteArray) : Option (ByteArray × ByteArray) := secateurref30_cut.l0 k a0 0
theorem secateurref30_cut.mono_l : ∀ k, (∀ y0 y1, LeO (secateurref30_cut.l0 k y0 y1) (secateurref30_cut.l0 (k + 1) y0 y1))
  | 0 => fun _ _ r h => by simp [secateurref30_cut.l0] at h
  | k + 1 => by
    have ih0 := secateurref30_cut.mono_l k
    · intro y0 y1
      unfold secateurref30_cut.l0
      repeat' first
      | (with_reducible exact ih0 _ _)
      | (with_reducible exact LeO.refl _)
      | (with_reducible exact LeO.none _)
      | (with_reducible refine LeO.ite ?_ ?_)
      | (with_reducible refine LeO.bind ?_ (fun _ => ?_))
      | exact ih0 _ _
      | exact LeO.none _
      | refine LeO.ite ?_ ?_
      | refine LeO.bind ?_ (fun _ => ?_)
theorem secateurref30_cut.mono : ∀ a0 k, LeO (secateurref30_cut.f k a0) (secateurref30_cut.f (k + 1) a0) := by
  intro a0 k
  have ih0 := secateurref30_cut.mono_l k
  unfold secateurref30_cut.f
  repeat' first
      | (with_reducible exact ih0 _ _)
      | (with_reducible exact LeO.refl _)
      | (with_reducible exact LeO.none _)
      | (with_reducible refine LeO.ite ?_ ?_)
      | (with_reducible refine LeO.bind ?_ (fun _ => ?_))
      | exact ih0 _ _
      | exact LeO.none _
      | refine LeO.ite ?_ ?_
      | refine LeO.bind ?_ (fun _ => ?_)
set_option maxHeartbeats 8000000 in
set_option maxRecDepth 100000 in
theorem secateurref30_cut.calls (k : Nat) (a0 : ByteArray) (r1 : ByteArray) (r2 : ByteArray) (w : World) (h : secateurref30_cut.f k a0 = some (r1, r2)) :
    Calls Tryz.prog 22 #[.string a0] w fun e w' => e = .returned (.tuple #[.string r1, .string r2]) ∧ Drawn0 w w' := by
  have H : (secateurref30_cut.l0 k a0 0) = some (r1, r2) := h
  clear h
  have H' := Aside0.mk H
  clear H
  go_enter Tryz.func22, Tryz.ntmps22
  go_wp2
  repeat (go_quiet (fail); try go_wp2)
  go_loopg [4] k (fun kq v4 w' => ∃ (x4_1 : Int), v4 = .int .i64 x4_1 ∧ Aside0 (secateurref30_cut.l0 kq a0 x4_1 = some (r1, r2)) ∧ Aside0 (kq ≤ k) ∧ Drawn0 w w')
  case atStart => exact ⟨(0), (by first | rfl | (simp; done) | (simp [*]; done)), H', ⟨Nat.le_refl _⟩, by repeat (first | exact Drawn0.refl _ | apply Drawn0.step)⟩
  case round =>
    clear H'
    obtain ⟨x4_1, rfl, HA, HK1, ⟨m1, rfl⟩⟩ := hrel
    cases gk with
    | zero => exact absurd HA.out (by simp [secateurref30_cut.l0])
    | succ k1 =>
      have H := HA.out
      clear HA
      simp only [secateurref30_cut.l0] at H
      by_cases c2 : x4_1 < (a0.size : Int)
      · rw [if_pos c2] at H
        have c2b0 : decide (x4_1 < (a0.size : Int)) = true := decide_eq_true c2
        clear c2
        by_cases c3 : 0 ≤ x4_1
        · rw [if_pos c3] at H
          have c3b0 : decide (0 ≤ x4_1) = true := decide_eq_true c3
          clear c3
          by_cases c5 : (bt a0 x4_1) = 40
          · rw [if_pos c5] at H
            have c5b0 : ((bt a0 x4_1) == 40) = true := beq_iff_eq.mpr c5
            have c5b1 : ((bt a0 x4_1) != 40) = false := bne_eq_false_iff_eq.mpr c5
            clear c5
            have c6b0 := eq_true (of_decide_eq_true (by first | (with_reducible assumption) | assumption) : 0 ≤ x4_1)
            by_cases c7 : x4_1 ≤ (a0.size : Int)
            · rw [if_pos c7] at H
              have c7b0 := eq_true c7
              have c7b1 : decide (x4_1 ≤ (a0.size : Int)) = true := decide_eq_true c7
              clear c7
              have c8b0 := eq_true (of_decide_eq_true (by first | (with_reducible assumption) | assumption) : 0 ≤ x4_1)
              have c9b0 := eq_true (of_decide_eq_true (by first | (with_reducible assumption) | assumption) : x4_1 ≤ (a0.size : Int))
              simp only [Option.some.injEq, Prod.mk.injEq] at H
              obtain ⟨rfl, rfl⟩ := H
              have p4 : 0 ≤ (x4_1 : Int) := of_decide_eq_true (by first | (with_reducible assumption) | assumption)
              have q4 : x4_1 < (a0.size : Int) := of_decide_eq_true (by first | (with_reducible assumption) | assumption)
              have hx4 := bt_at a0 x4_1
              replace p4 := eq_true p4
              replace q4 := eq_true q4
              go_wp2
              repeat (go_quiet (fail); try go_wp2)
              go_ret2
              exact ⟨by first | rfl | (simp; done) | (simp [*]; done), by repeat (first | exact Drawn0.refl _ | apply Drawn0.step)⟩
            · rw [if_neg c7] at H
              exact absurd H (by simp)
          · rw [if_neg c5] at H
            have c5b0 : ((bt a0 x4_1) == 40) = false := beq_eq_false_iff_ne.mpr c5
            have c5b1 : ((bt a0 x4_1) != 40) = true := bne_iff_ne.mpr c5
            have H' := Aside0.mk H
            clear H
            have p4 : 0 ≤ (x4_1 : Int) := of_decide_eq_true (by first | (with_reducible assumption) | assumption)
            have q4 : x4_1 < (a0.size : Int) := of_decide_eq_true (by first | (with_reducible assumption) | assumption)
            have hx4 := bt_at a0 x4_1
            replace p4 := eq_true p4
            replace q4 := eq_true q4
            go_wp2
            repeat (go_quiet (fail); try go_wp2)
            go_roundg k1
            case measure => have := HK1.out; omega
            case rel => exact ⟨(wrap64 (x4_1 + 1)), (by first | rfl | (simp; done) | (simp [*]; done)), H', ⟨by have := HK1.out; omega⟩, by repeat (first | exact Drawn0.refl _ | apply Drawn0.step)⟩
        · rw [if_neg c3] at H
          exact absurd H (by simp)
      · rw [if_neg c2] at H
        have c2b0 : decide (x4_1 < (a0.size : Int)) = false := decide_eq_false c2
        clear c2
        simp only [Option.some.injEq, Prod.mk.injEq] at H
        obtain ⟨rfl, rfl⟩ := H
        go_wp2
        repeat (go_quiet (fail); try go_wp2)
        go_ret2
        exact ⟨by first | rfl | (simp; done) | (simp [*]; done), by repeat (first | exact Drawn0.refl _ | apply Drawn0.step)⟩
def secateurref30_Line.j0 : Nat → ByteArray → ByteArray → Bool → ByteArray → ByteArray → Option (ByteArray)
  | 0, _, _, _, _, _ => none
  | k + 1, x0, x7, x8, x104000, x104001 => if x8 = true then (if x0.size + 1 ≤ 9223372036854775807 then (if (x0 ++ (⟨#[32]⟩ : ByteArray)).size + x104000.size ≤ 9223372036854775807 then (if ((x0 ++ (⟨#[32]⟩ : ByteArray)) ++ x104000).size + 1 ≤ 9223372036854775807 then (if (((x0 ++ (⟨#[32]⟩ : ByteArray)) ++ x104000) ++ (⟨#[32]⟩ : ByteArray)).size + x104001.size ≤ 9223372036854775807 then (some ((((x0 ++ (⟨#[32]⟩ : ByteArray)) ++ x104000) ++ (⟨#[32]⟩ : ByteArray)) ++ x104001)) else (none)) else (none)) else (none)) else (none)) else (if x7.toList = ([109, 101, 116, 104, 111, 100] : List UInt8) then ((secateurref30_cut.f k x104000).bind fun bt104 => (if x0.size + 1 ≤ 9223372036854775807 then (if (x0 ++ (⟨#[32]⟩ : ByteArray)).size + bt104.1.size ≤ 9223372036854775807 then (if ((x0 ++ (⟨#[32]⟩ : ByteArray)) ++ bt104.1).size + 1 ≤ 9223372036854775807 then (if (((x0 ++ (⟨#[32]⟩ : ByteArray)) ++ bt104.1) ++ (⟨#[32]⟩ : ByteArray)).size + bt104.2.size ≤ 9223372036854775807 then (if ((((x0 ++ (⟨#[32]⟩ : ByteArray)) ++ bt104.1) ++ (⟨#[32]⟩ : ByteArray)) ++ bt104.2).size + 1 ≤ 9223372036854775807 then (if (((((x0 ++ (⟨#[32]⟩ : ByteArray)) ++ bt104.1) ++ (⟨#[32]⟩ : ByteArray)) ++ bt104.2) ++ (⟨#[32]⟩ : ByteArray)).size + x104001.size ≤ 9223372036854775807 then (some ((((((x0 ++ (⟨#[32]⟩ : ByteArray)) ++ bt104.1) ++ (⟨#[32]⟩ : ByteArray)) ++ bt104.2) ++ (⟨#[32]⟩ : ByteArray)) ++ x104001)) else (none)) else (none)) else (none)) else (none)) else (none)) else (none))) else (some (⟨#[]⟩ : ByteArray)))
def secateurref30_Line.f (k : Nat) (a0 : ByteArray) (a1_0 : ByteArray) (a1_1 : ByteArray) : Option (ByteArray) := if a0.toList = ([99, 108, 97, 115, 115] : List UInt8) then (secateurref30_Line.j0 k a0 a0 (a0.toList == ([99, 108, 97, 115, 115] : List UInt8)) a1_0 a1_1) else (secateurref30_Line.j0 k a0 a0 (a0.toList == ([102, 105, 101, 108, 100] : List UInt8)) a1_0 a1_1)
theorem secateurref30_Line.mono_l : ∀ k, (∀ y0 y1 y2 y3 y4, LeO (secateurref30_Line.j0 k y0 y1 y2 y3 y4) (secateurref30_Line.j0 (k + 1) y0 y1 y2 y3 y4))
  | 0 => fun _ _ _ _ _ r h => by simp [secateurref30_Line.j0] at h
  | k + 1 => by
    have ih0 := secateurref30_Line.mono_l k
    · intro y0 y1 y2 y3 y4
      unfold secateurref30_Line.j0
      repeat' first
      | (with_reducible exact ih0 _ _ _ _ _)
      | (with_reducible exact secateurref30_cut.mono _ _)
      | (with_reducible exact LeO.refl _)
      | (with_reducible exact LeO.none _)
      | (with_reducible refine LeO.ite ?_ ?_)
      | (with_reducible refine LeO.bind ?_ (fun _ => ?_))
      | exact ih0 _ _ _ _ _
      | exact secateurref30_cut.mono _ _
      | exact LeO.none _
      | refine LeO.ite ?_ ?_
      | refine LeO.bind ?_ (fun _ => ?_)
theorem secateurref30_Line.mono : ∀ a0 a1 a2 k, LeO (secateurref30_Line.f k a0 a1 a2) (secateurref30_Line.f (k + 1) a0 a1 a2) := by
  intro a0 a1 a2 k
  have ih0 := secateurref30_Line.mono_l k
  unfold secateurref30_Line.f
  repeat' first
      | (with_reducible exact ih0 _ _ _ _ _)
      | (with_reducible exact secateurref30_cut.mono _ _)
      | (with_reducible exact LeO.refl _)
      | (with_reducible exact LeO.none _)
      | (with_reducible refine LeO.ite ?_ ?_)
      | (with_reducible refine LeO.bind ?_ (fun _ => ?_))
      | exact ih0 _ _ _ _ _
      | exact secateurref30_cut.mono _ _
      | exact LeO.none _
      | refine LeO.ite ?_ ?_
      | refine LeO.bind ?_ (fun _ => ?_)
set_option maxHeartbeats 8000000 in
set_option maxRecDepth 100000 in
theorem secateurref30_Line.calls (k : Nat) (a0 : ByteArray) (a1_0 : ByteArray) (a1_1 : ByteArray) (r : ByteArray) (w : World) (h : secateurref30_Line.f k a0 a1_0 a1_1 = some r) :
    Calls Tryz.prog 10 #[.string a0, .agg #[.string a1_0, .string a1_1]] w fun e w' => e = .returned (.string r) ∧ Below w.heap.size w w' := by
  have hu23 := Tryz.underlying23
  have HB := Aside0.mk (Below.refl w.heap.size w)
  have H : (if a0.toList = ([99, 108, 97, 115, 115] : List UInt8) then (secateurref30_Line.j0 k a0 a0 (a0.toList == ([99, 108, 97, 115, 115] : List UInt8)) a1_0 a1_1) else (secateurref30_Line.j0 k a0 a0 (a0.toList == ([102, 105, 101, 108, 100] : List UInt8)) a1_0 a1_1)) = some r := h
  clear h
  have HC3 := Aside0.mk H
  clear H
  go_enter Tryz.func10, Tryz.ntmps10
  go_upto_if 8 with (first | ((with_reducible refine gate_dst (N := 3) rfl ?_); refine box_event ?hg (N := 3) ?hd (cs := #[.string a1_0, .string a1_1]) (t := 23) ?hr ?_; (case hd => rfl); (case hg => rfl); (case hr => first | (go_simp; done) | (go_simp; rfl)); intro gb103 hg w4 hbox hb; have n0_ := Aside0.mk (below_step (by repeat (first | (with_reducible first | exact HB.out | apply below_alloc | apply pw_below_drewN | apply below_drew1) | exact HB.out)) hb); have n1_ := Aside0.mk (hbox); have n2_ := Aside0.mk ((by rw [hg]; exact (below_size (by repeat (first | (with_reducible first | exact HB.out | apply below_alloc | apply pw_below_drewN | apply below_drew1) | exact HB.out))) : w.heap.size ≤ gb103)); have n3_ := Aside0.mk ((by rw [hg]; exact (below_size (by repeat (first | (with_reducible first | exact HB.out | apply below_alloc | apply pw_below_drewN | apply below_drew1) | exact HB.out))) : w.heap.size ≤ gb103)); clear HB; have HB := n0_; have BK103 := n1_; have GW103 := n2_; have GE103 := n3_; clear n0_ n1_ n2_ n3_; clear hb hbox hg))
  (try simp only [Act.put, List.setIfInBounds_toArray, List.set_cons_zero, List.set_cons_succ])
  go_cut [8] (fun v8 wc => ∃ (kq : Nat) (x8_2 : Bool), v8 = .bool x8_2 ∧ Aside0 (secateurref30_Line.j0 kq a0 a0 x8_2 a1_0 a1_1 = some r) ∧ Aside0 (kq ≤ k) ∧ Aside0 (wc.heap[gb103]? = some (.cells #[.string a1_0, .string a1_1] 23 (0, 0))) ∧ Aside0 (Below w.heap.size w wc))
  case first =>
    have H := HC3.out
    clear HC3
    by_cases c5 : a0.toList = ([99, 108, 97, 115, 115] : List UInt8)
    · rw [if_pos c5] at H
      have c5b0 : (a0.toList == ([99, 108, 97, 115, 115] : List UInt8)) = true := beq_iff_eq.mpr c5
      have c5b1 : (a0.toList != ([99, 108, 97, 115, 115] : List UInt8)) = false := bne_eq_false_iff_eq.mpr c5
      clear c5
      (first | rw [c5b0] | rw [c5b1] | (simp only [i64_w, i32_w]; rw [c5b0]) | skip)
      have H' := Aside0.mk H
      clear H
      go_wp2
      go_meet
      case rel => exact ⟨_, ((a0.toList == ([99, 108, 97, 115, 115] : List UInt8))), (by first | rfl | (simp; done) | (simp [*]; done)), H', ⟨by first | omega | exact Nat.le_refl _⟩, ⟨by (with_reducible repeat (first | refine blk_drewN ?_ _ | refine blk_drew ?_ | refine blk_alloc ?_ _)); exact BK103.out⟩, ⟨by repeat (first | (with_reducible first | exact HB.out | apply below_alloc | apply pw_below_drewN | apply below_drew1 | refine below_set ?_ GE103.out) | exact HB.out)⟩⟩
    · rw [if_neg c5] at H
      have c5b0 : (a0.toList == ([99, 108, 97, 115, 115] : List UInt8)) = false := beq_eq_false_iff_ne.mpr c5
      have c5b1 : (a0.toList != ([99, 108, 97, 115, 115] : List UInt8)) = true := bne_iff_ne.mpr c5
      (first | rw [c5b0] | rw [c5b1] | (simp only [i64_w, i32_w]; rw [c5b0]) | skip)
      have H' := Aside0.mk H
      clear H
      go_wp2
      go_meet
      case rel => exact ⟨_, ((a0.toList == ([102, 105, 101, 108, 100] : List UInt8))), (by first | rfl | (simp; done) | (simp [*]; done)), H', ⟨by first | omega | exact Nat.le_refl _⟩, ⟨by (with_reducible repeat (first | refine blk_drewN ?_ _ | refine blk_drew ?_ | refine blk_alloc ?_ _)); exact BK103.out⟩, ⟨by repeat (first | (with_reducible first | exact HB.out | apply below_alloc | apply pw_below_drewN | apply below_drew1 | refine below_set ?_ GE103.out) | exact HB.out)⟩⟩
  case rest =>
    clear HC3
    try clear c1
    try clear p2
    try clear c5
    try clear c5b0
    try clear c5b1
    obtain ⟨kq, x8_2, rfl, HA, HJ2, BK103, HB⟩ := hcut
    cases kq with
    | zero => exact absurd HA.out (by simp [secateurref30_Line.j0])
    | succ kj2 =>
      have H := HA.out
      clear HA
      simp only [secateurref30_Line.j0] at H
      by_cases c6 : x8_2 = true
      · subst c6
        have H1 : (if a0.size + 1 ≤ 9223372036854775807 then (if (a0 ++ (⟨#[32]⟩ : ByteArray)).size + a1_0.size ≤ 9223372036854775807 then (if ((a0 ++ (⟨#[32]⟩ : ByteArray)) ++ a1_0).size + 1 ≤ 9223372036854775807 then (if (((a0 ++ (⟨#[32]⟩ : ByteArray)) ++ a1_0) ++ (⟨#[32]⟩ : ByteArray)).size + a1_1.size ≤ 9223372036854775807 then (some ((((a0 ++ (⟨#[32]⟩ : ByteArray)) ++ a1_0) ++ (⟨#[32]⟩ : ByteArray)) ++ a1_1)) else (none)) else (none)) else (none)) else (none)) = some r := by rw [if_pos rfl] at H; exact H
        clear H
        have H := H1
        clear H1
        by_cases c7 : a0.size + 1 ≤ 9223372036854775807
        · rw [if_pos c7] at H
          have c7b0 := eq_true c7
          have c7b1 : decide (a0.size + 1 ≤ 9223372036854775807) = true := decide_eq_true c7
          try have c7b2 : (9223372036854775807 < a0.size + 1) = False := eq_false (Nat.not_lt.2 c7)
          by_cases c8 : (a0 ++ (⟨#[32]⟩ : ByteArray)).size + a1_0.size ≤ 9223372036854775807
          · rw [if_pos c8] at H
            have c8b0 := eq_true c8
            have c8b1 : decide ((a0 ++ (⟨#[32]⟩ : ByteArray)).size + a1_0.size ≤ 9223372036854775807) = true := decide_eq_true c8
            try have c8b2 : (9223372036854775807 < (a0 ++ (⟨#[32]⟩ : ByteArray)).size + a1_0.size) = False := eq_false (Nat.not_lt.2 c8)
            try have c8b3 : (9223372036854775807 < (a0.size + 1) + a1_0.size) = False := eq_false (Nat.not_lt.2 (by have h_ := c8; simp only [ByteArray.size_append] at h_; exact h_))
            try have c8b4 : (9223372036854775807 < a0.size + 1) = False := eq_false (Nat.not_lt.2 (Nat.le_trans (Nat.le_add_right _ _) (show (a0.size + 1) + a1_0.size ≤ 9223372036854775807 from by have h_ := c8; simp only [ByteArray.size_append] at h_; exact h_)))
            by_cases c9 : ((a0 ++ (⟨#[32]⟩ : ByteArray)) ++ a1_0).size + 1 ≤ 9223372036854775807
            · rw [if_pos c9] at H
              have c9b0 := eq_true c9
              have c9b1 : decide (((a0 ++ (⟨#[32]⟩ : ByteArray)) ++ a1_0).size + 1 ≤ 9223372036854775807) = true := decide_eq_true c9
              try have c9b2 : (9223372036854775807 < ((a0 ++ (⟨#[32]⟩ : ByteArray)) ++ a1_0).size + 1) = False := eq_false (Nat.not_lt.2 c9)
              try have c9b3 : (9223372036854775807 < (a0.size + 1 + a1_0.size) + 1) = False := eq_false (Nat.not_lt.2 (by have h_ := c9; simp only [ByteArray.size_append] at h_; exact h_))
              try have c9b4 : (9223372036854775807 < a0.size + 1 + a1_0.size) = False := eq_false (Nat.not_lt.2 (Nat.le_trans (Nat.le_add_right _ _) (show (a0.size + 1 + a1_0.size) + 1 ≤ 9223372036854775807 from by have h_ := c9; simp only [ByteArray.size_append] at h_; exact h_)))
              by_cases c10 : (((a0 ++ (⟨#[32]⟩ : ByteArray)) ++ a1_0) ++ (⟨#[32]⟩ : ByteArray)).size + a1_1.size ≤ 9223372036854775807
              · rw [if_pos c10] at H
                have c10b0 := eq_true c10
                have c10b1 : decide ((((a0 ++ (⟨#[32]⟩ : ByteArray)) ++ a1_0) ++ (⟨#[32]⟩ : ByteArray)).size + a1_1.size ≤ 9223372036854775807) = true := decide_eq_true c10
                try have c10b2 : (9223372036854775807 < (((a0 ++ (⟨#[32]⟩ : ByteArray)) ++ a1_0) ++ (⟨#[32]⟩ : ByteArray)).size + a1_1.size) = False := eq_false (Nat.not_lt.2 c10)
                try have c10b3 : (9223372036854775807 < (a0.size + 1 + a1_0.size + 1) + a1_1.size) = False := eq_false (Nat.not_lt.2 (by have h_ := c10; simp only [ByteArray.size_append] at h_; exact h_))
                try have c10b4 : (9223372036854775807 < a0.size + 1 + a1_0.size + 1) = False := eq_false (Nat.not_lt.2 (Nat.le_trans (Nat.le_add_right _ _) (show (a0.size + 1 + a1_0.size + 1) + a1_1.size ≤ 9223372036854775807 from by have h_ := c10; simp only [ByteArray.size_append] at h_; exact h_)))
                obtain rfl := Option.some.inj H
                have hcz11_0 : wc.cell? ⟨gb103, 0, none⟩ = some (.string a1_0) := (blk_cell BK103.out 0).trans rfl
                have hcz11_1 : wc.cell? ⟨gb103, 1, none⟩ = some (.string a1_1) := (blk_cell BK103.out 1).trans rfl
                have hfz11_0 := blk_frozen BK103.out 0
                have hfz11_1 := blk_frozen BK103.out 1
                go_wp2
                go_ret
                exact ⟨by first | rfl | (simp [errW_none, errW_some] <;> rfl) | (simp [*, errW_none, errW_some] <;> rfl), by repeat (first | (with_reducible first | exact HB.out | apply below_alloc | apply pw_below_drewN | apply below_drew1 | refine below_set ?_ GE103.out) | exact HB.out)⟩
              · rw [if_neg c10] at H
                exact absurd H (by simp)
            · rw [if_neg c9] at H
              exact absurd H (by simp)
          · rw [if_neg c8] at H
            exact absurd H (by simp)
        · rw [if_neg c7] at H
          exact absurd H (by simp)
      · replace c6 := Bool.eq_false_iff.mpr c6
        subst c6
        have H1 : (if a0.toList = ([109, 101, 116, 104, 111, 100] : List UInt8) then ((secateurref30_cut.f kj2 a1_0).bind fun bt104 => (if a0.size + 1 ≤ 9223372036854775807 then (if (a0 ++ (⟨#[32]⟩ : ByteArray)).size + bt104.1.size ≤ 9223372036854775807 then (if ((a0 ++ (⟨#[32]⟩ : ByteArray)) ++ bt104.1).size + 1 ≤ 9223372036854775807 then (if (((a0 ++ (⟨#[32]⟩ : ByteArray)) ++ bt104.1) ++ (⟨#[32]⟩ : ByteArray)).size + bt104.2.size ≤ 9223372036854775807 then (if ((((a0 ++ (⟨#[32]⟩ : ByteArray)) ++ bt104.1) ++ (⟨#[32]⟩ : ByteArray)) ++ bt104.2).size + 1 ≤ 9223372036854775807 then (if (((((a0 ++ (⟨#[32]⟩ : ByteArray)) ++ bt104.1) ++ (⟨#[32]⟩ : ByteArray)) ++ bt104.2) ++ (⟨#[32]⟩ : ByteArray)).size + a1_1.size ≤ 9223372036854775807 then (some ((((((a0 ++ (⟨#[32]⟩ : ByteArray)) ++ bt104.1) ++ (⟨#[32]⟩ : ByteArray)) ++ bt104.2) ++ (⟨#[32]⟩ : ByteArray)) ++ a1_1)) else (none)) else (none)) else (none)) else (none)) else (none)) else (none))) else (some (⟨#[]⟩ : ByteArray))) = some r := by rw [if_neg (show ¬ (false = true) by decide)] at H; exact H
        clear H
        have H := H1
        clear H1
        by_cases c12 : a0.toList = ([109, 101, 116, 104, 111, 100] : List UInt8)
        · rw [if_pos c12] at H
          have c12b0 : (a0.toList == ([109, 101, 116, 104, 111, 100] : List UInt8)) = true := beq_iff_eq.mpr c12
          have c12b1 : (a0.toList != ([109, 101, 116, 104, 111, 100] : List UInt8)) = false := bne_eq_false_iff_eq.mpr c12
          clear c12
          replace H := Option.bind_eq_some_iff.mp H
          obtain ⟨⟨t104, t105⟩, A130, H⟩ := H
          replace H : (if a0.size + 1 ≤ 9223372036854775807 then (if (a0 ++ (⟨#[32]⟩ : ByteArray)).size + t104.size ≤ 9223372036854775807 then (if ((a0 ++ (⟨#[32]⟩ : ByteArray)) ++ t104).size + 1 ≤ 9223372036854775807 then (if (((a0 ++ (⟨#[32]⟩ : ByteArray)) ++ t104) ++ (⟨#[32]⟩ : ByteArray)).size + t105.size ≤ 9223372036854775807 then (if ((((a0 ++ (⟨#[32]⟩ : ByteArray)) ++ t104) ++ (⟨#[32]⟩ : ByteArray)) ++ t105).size + 1 ≤ 9223372036854775807 then (if (((((a0 ++ (⟨#[32]⟩ : ByteArray)) ++ t104) ++ (⟨#[32]⟩ : ByteArray)) ++ t105) ++ (⟨#[32]⟩ : ByteArray)).size + a1_1.size ≤ 9223372036854775807 then (some ((((((a0 ++ (⟨#[32]⟩ : ByteArray)) ++ t104) ++ (⟨#[32]⟩ : ByteArray)) ++ t105) ++ (⟨#[32]⟩ : ByteArray)) ++ a1_1)) else (none)) else (none)) else (none)) else (none)) else (none)) else (none)) = some r := H
          have A13 := Aside0.mk A130
          clear A130
          by_cases c14 : a0.size + 1 ≤ 9223372036854775807
          · rw [if_pos c14] at H
            have c14b0 := eq_true c14
            have c14b1 : decide (a0.size + 1 ≤ 9223372036854775807) = true := decide_eq_true c14
            try have c14b2 : (9223372036854775807 < a0.size + 1) = False := eq_false (Nat.not_lt.2 c14)
            by_cases c15 : (a0 ++ (⟨#[32]⟩ : ByteArray)).size + t104.size ≤ 9223372036854775807
            · rw [if_pos c15] at H
              have c15b0 := eq_true c15
              have c15b1 : decide ((a0 ++ (⟨#[32]⟩ : ByteArray)).size + t104.size ≤ 9223372036854775807) = true := decide_eq_true c15
              try have c15b2 : (9223372036854775807 < (a0 ++ (⟨#[32]⟩ : ByteArray)).size + t104.size) = False := eq_false (Nat.not_lt.2 c15)
              try have c15b3 : (9223372036854775807 < (a0.size + 1) + t104.size) = False := eq_false (Nat.not_lt.2 (by have h_ := c15; simp only [ByteArray.size_append] at h_; exact h_))
              try have c15b4 : (9223372036854775807 < a0.size + 1) = False := eq_false (Nat.not_lt.2 (Nat.le_trans (Nat.le_add_right _ _) (show (a0.size + 1) + t104.size ≤ 9223372036854775807 from by have h_ := c15; simp only [ByteArray.size_append] at h_; exact h_)))
              by_cases c16 : ((a0 ++ (⟨#[32]⟩ : ByteArray)) ++ t104).size + 1 ≤ 9223372036854775807
              · rw [if_pos c16] at H
                have c16b0 := eq_true c16
                have c16b1 : decide (((a0 ++ (⟨#[32]⟩ : ByteArray)) ++ t104).size + 1 ≤ 9223372036854775807) = true := decide_eq_true c16
                try have c16b2 : (9223372036854775807 < ((a0 ++ (⟨#[32]⟩ : ByteArray)) ++ t104).size + 1) = False := eq_false (Nat.not_lt.2 c16)
                try have c16b3 : (9223372036854775807 < (a0.size + 1 + t104.size) + 1) = False := eq_false (Nat.not_lt.2 (by have h_ := c16; simp only [ByteArray.size_append] at h_; exact h_))
                try have c16b4 : (9223372036854775807 < a0.size + 1 + t104.size) = False := eq_false (Nat.not_lt.2 (Nat.le_trans (Nat.le_add_right _ _) (show (a0.size + 1 + t104.size) + 1 ≤ 9223372036854775807 from by have h_ := c16; simp only [ByteArray.size_append] at h_; exact h_)))
                by_cases c17 : (((a0 ++ (⟨#[32]⟩ : ByteArray)) ++ t104) ++ (⟨#[32]⟩ : ByteArray)).size + t105.size ≤ 9223372036854775807
                · rw [if_pos c17] at H
                  have c17b0 := eq_true c17
                  have c17b1 : decide ((((a0 ++ (⟨#[32]⟩ : ByteArray)) ++ t104) ++ (⟨#[32]⟩ : ByteArray)).size + t105.size ≤ 9223372036854775807) = true := decide_eq_true c17
                  try have c17b2 : (9223372036854775807 < (((a0 ++ (⟨#[32]⟩ : ByteArray)) ++ t104) ++ (⟨#[32]⟩ : ByteArray)).size + t105.size) = False := eq_false (Nat.not_lt.2 c17)
                  try have c17b3 : (9223372036854775807 < (a0.size + 1 + t104.size + 1) + t105.size) = False := eq_false (Nat.not_lt.2 (by have h_ := c17; simp only [ByteArray.size_append] at h_; exact h_))
                  try have c17b4 : (9223372036854775807 < a0.size + 1 + t104.size + 1) = False := eq_false (Nat.not_lt.2 (Nat.le_trans (Nat.le_add_right _ _) (show (a0.size + 1 + t104.size + 1) + t105.size ≤ 9223372036854775807 from by have h_ := c17; simp only [ByteArray.size_append] at h_; exact h_)))
                  by_cases c18 : ((((a0 ++ (⟨#[32]⟩ : ByteArray)) ++ t104) ++ (⟨#[32]⟩ : ByteArray)) ++ t105).size + 1 ≤ 9223372036854775807
                  · rw [if_pos c18] at H
                    have c18b0 := eq_true c18
                    have c18b1 : decide (((((a0 ++ (⟨#[32]⟩ : ByteArray)) ++ t104) ++ (⟨#[32]⟩ : ByteArray)) ++ t105).size + 1 ≤ 9223372036854775807) = true := decide_eq_true c18
                    try have c18b2 : (9223372036854775807 < ((((a0 ++ (⟨#[32]⟩ : ByteArray)) ++ t104) ++ (⟨#[32]⟩ : ByteArray)) ++ t105).size + 1) = False := eq_false (Nat.not_lt.2 c18)
                    try have c18b3 : (9223372036854775807 < (a0.size + 1 + t104.size + 1 + t105.size) + 1) = False := eq_false (Nat.not_lt.2 (by have h_ := c18; simp only [ByteArray.size_append] at h_; exact h_))
                    try have c18b4 : (9223372036854775807 < a0.size + 1 + t104.size + 1 + t105.size) = False := eq_false (Nat.not_lt.2 (Nat.le_trans (Nat.le_add_right _ _) (show (a0.size + 1 + t104.size + 1 + t105.size) + 1 ≤ 9223372036854775807 from by have h_ := c18; simp only [ByteArray.size_append] at h_; exact h_)))
                    by_cases c19 : (((((a0 ++ (⟨#[32]⟩ : ByteArray)) ++ t104) ++ (⟨#[32]⟩ : ByteArray)) ++ t105) ++ (⟨#[32]⟩ : ByteArray)).size + a1_1.size ≤ 9223372036854775807
                    · rw [if_pos c19] at H
                      have c19b0 := eq_true c19
                      have c19b1 : decide ((((((a0 ++ (⟨#[32]⟩ : ByteArray)) ++ t104) ++ (⟨#[32]⟩ : ByteArray)) ++ t105) ++ (⟨#[32]⟩ : ByteArray)).size + a1_1.size ≤ 9223372036854775807) = true := decide_eq_true c19
                      try have c19b2 : (9223372036854775807 < (((((a0 ++ (⟨#[32]⟩ : ByteArray)) ++ t104) ++ (⟨#[32]⟩ : ByteArray)) ++ t105) ++ (⟨#[32]⟩ : ByteArray)).size + a1_1.size) = False := eq_false (Nat.not_lt.2 c19)
                      try have c19b3 : (9223372036854775807 < (a0.size + 1 + t104.size + 1 + t105.size + 1) + a1_1.size) = False := eq_false (Nat.not_lt.2 (by have h_ := c19; simp only [ByteArray.size_append] at h_; exact h_))
                      try have c19b4 : (9223372036854775807 < a0.size + 1 + t104.size + 1 + t105.size + 1) = False := eq_false (Nat.not_lt.2 (Nat.le_trans (Nat.le_add_right _ _) (show (a0.size + 1 + t104.size + 1 + t105.size + 1) + a1_1.size ≤ 9223372036854775807 from by have h_ := c19; simp only [ByteArray.size_append] at h_; exact h_)))
                      obtain rfl := Option.some.inj H
                      have hcz20_0 : wc.cell? ⟨gb103, 0, none⟩ = some (.string a1_0) := (blk_cell BK103.out 0).trans rfl
                      have hcz20_1 : wc.cell? ⟨gb103, 1, none⟩ = some (.string a1_1) := (blk_cell BK103.out 1).trans rfl
                      have hfz20_0 := blk_frozen BK103.out 0
                      have hfz20_1 := blk_frozen BK103.out 1
                      go_wp2_with (first | ((with_reducible refine gate_callee (f := 22) rfl ?_); refine goesL_ (some 25) rfl rfl Tryz.func22 (by kernel_rfl) rfl #[.string a1_0] rfl (by (try simp only [List.map_toArray, List.map_cons, List.map_nil]); first | done | rfl | (simp only [List.length_drop, List.length_take]; rfl)) ?_; (with_reducible refine (secateurref30_cut.calls kj2 a1_0 t104 t105 _ A13.out).mono ?_); rintro e w' ⟨rfl, ⟨nd, rfl⟩⟩; refine ⟨_, rfl, ?_⟩))
                      go_ret
                      exact ⟨by first | rfl | (simp [errW_none, errW_some] <;> rfl) | (simp [*, errW_none, errW_some] <;> rfl), by repeat (first | (with_reducible first | exact HB.out | apply below_alloc | apply pw_below_drewN | apply below_drew1 | refine below_set ?_ GE103.out) | exact HB.out)⟩
                    · rw [if_neg c19] at H
                      exact absurd H (by simp)
                  · rw [if_neg c18] at H
                    exact absurd H (by simp)
                · rw [if_neg c17] at H
                  exact absurd H (by simp)
              · rw [if_neg c16] at H
                exact absurd H (by simp)
            · rw [if_neg c15] at H
              exact absurd H (by simp)
          · rw [if_neg c14] at H
            exact absurd H (by simp)
        · rw [if_neg c12] at H
          have c12b0 : (a0.toList == ([109, 101, 116, 104, 111, 100] : List UInt8)) = false := beq_eq_false_iff_ne.mpr c12
          have c12b1 : (a0.toList != ([109, 101, 116, 104, 111, 100] : List UInt8)) = true := bne_iff_ne.mpr c12
          obtain rfl := Option.some.inj H
          go_wp2
          go_ret
          exact ⟨by first | rfl | (simp [errW_none, errW_some] <;> rfl) | (simp [*, errW_none, errW_some] <;> rfl), by repeat (first | (with_reducible first | exact HB.out | apply below_alloc | apply pw_below_drewN | apply below_drew1 | refine below_set ?_ GE103.out) | exact HB.out)⟩
end Go.Proofs.YtaokkkolbifdpaaGreatDoor.Q31
end

section
namespace Go.Proofs.YtaokkkolbifdpaaGreatDoor.Q31
open Go.RowKit Go.Proofs.YtaokkkolbifdpaaGreatDoorW.PrintWords Go.Proofs.YtaokkkolbifdpaaGreatDoorW.PrintLast Go.Proofs.YtaokkkolbifdpaaGreatDoorW.PrintMore
attribute [local go_sem] max2_int min2_int max_two min_two max_three min_three max_four min_four   -- for this text's walks alone
set_option linter.unusedVariables false
set_option linter.unusedSimpArgs false
end Go.Proofs.YtaokkkolbifdpaaGreatDoor.Q31
end

section
namespace Go.Proofs.YtaokkkolbifdpaaGreatDoor.Hand
open Go.RowKit Go.Proofs.YtaokkkolbifdpaaGreatDoorW.PrintWords Go.Proofs.YtaokkkolbifdpaaGreatDoorW.PrintLast Go.Proofs.YtaokkkolbifdpaaGreatDoorW.PrintMore
set_option linter.unusedVariables false
set_option linter.unusedSimpArgs false
theorem key_at : ∀ (a r : List UInt8), (40 : UInt8) ∉ a → keyN (a ++ 40 :: r) = a ∧ keyD (a ++ 40 :: r) = 40 :: r
  | [], r, _ => by simp [keyN, keyD]
  | b :: a, r, h => by
    have hb : (b != 40) = true := bne_iff_ne.2 fun e => h (by rw [e]; exact List.mem_cons_self)
    obtain ⟨h1, h2⟩ := key_at a r fun hm => h (List.mem_cons_of_mem _ hm)
    unfold keyN at h1
    unfold keyD at h2
    unfold keyN keyD
    rw [List.cons_append, List.takeWhile_cons, List.dropWhile_cons, hb, if_pos rfl, if_pos rfl, h1, h2]
    exact ⟨rfl, rfl⟩
theorem cut_loopQ31 (s : ByteArray) (hs : s.size ≤ 1048576) : ∀ (d k i : Nat), s.size - i = d → i ≤ s.size → d < k → (40 : UInt8) ∉ (bl s).take i → Q31.secateurref30_cut.l0 k s (i : Int) = some (lb (keyN (bl s)), lb (keyD (bl s)))
  | 0, k, i, hd, hi, hk, hn => by
    obtain ⟨k, rfl⟩ : ∃ j, k = j + 1 := ⟨k - 1, by omega⟩
    rw [List.take_of_length_le (by rw [bl_len]; omega)] at hn
    rw [Q31.secateurref30_cut.l0, if_neg (by omega), (key_none hn).1, (key_none hn).2, lb_bl]
    rfl
  | d + 1, k, i, hd, hi, hk, hn => by
    obtain ⟨k, rfl⟩ : ∃ j, k = j + 1 := ⟨k - 1, by omega⟩
    have hlt : i < s.size := by omega
    have hdr : (bl s).drop i = s[i] :: (bl s).drop (i + 1) := drop_data s i hlt
    have hsp : bl s = (bl s).take i ++ s[i] :: (bl s).drop (i + 1) := by rw [← hdr, List.take_append_drop]
    rw [Q31.secateurref30_cut.l0, if_pos (by omega), if_pos (by omega), bt_nat s i hlt]
    by_cases h40 : s[i] = 40
    · have hl : (bl s).take i ++ (40 : UInt8) :: (bl s).drop (i + 1) = bl s := by rw [← h40]; exact hsp.symm
      have hk2 := key_at ((bl s).take i) ((bl s).drop (i + 1)) hn
      rw [hl] at hk2
      rw [if_pos (by rw [h40]; rfl), if_pos (by omega), Int.toNat_natCast, ext_front, ext_back, hk2.1, hk2.2, hdr, h40]
    · have e40 : (40 : UInt8).toNat = 40 := rfl
      have hne : ¬ ((s[i].toNat : Int) = 40) := fun h => h40 (UInt8.toNat_inj.1 (by omega))
      have hw : wrap64 ((i : Int) + 1) = ((i + 1 : Nat) : Int) := by unfold wrap64; omega
      have ih := cut_loopQ31 s hs d k (i + 1) (by omega) (by omega) (by omega) (by
        rw [List.take_succ_eq_append_getElem (by rw [bl_len]; exact hlt), List.mem_append]
        rintro (h | h)
        · exact hn h
        · rw [List.mem_singleton] at h
          have e : (bl s)[i]'(by rw [bl_len]; exact hlt) = s[i] := get_data s i hlt
          rw [e] at h
          exact h40 h.symm)
      rw [if_neg hne, hw, ih]
theorem cut_eqQ31 (s : ByteArray) (hs : s.size ≤ 1048576) (k : Nat) (hk : s.size < k) : Q31.secateurref30_cut.f k s = some (lb (keyN (bl s)), lb (keyD (bl s))) := cut_loopQ31 s hs s.size k 0 (by omega) (by omega) hk (by simp)
theorem cut_loopQ32 (s : ByteArray) (hs : s.size ≤ 1048576) : ∀ (d k i : Nat), s.size - i = d → i ≤ s.size → d < k → (40 : UInt8) ∉ (bl s).take i → Q32.secateurref30_cut.l0 k s (i : Int) = some (lb (keyN (bl s)), lb (keyD (bl s)))
  | 0, k, i, hd, hi, hk, hn => by
    obtain ⟨k, rfl⟩ : ∃ j, k = j + 1 := ⟨k - 1, by omega⟩
    rw [List.take_of_length_le (by rw [bl_len]; omega)] at hn
    rw [Q32.secateurref30_cut.l0, if_neg (by omega), (key_none hn).1, (key_none hn).2, lb_bl]
    rfl
  | d + 1, k, i, hd, hi, hk, hn => by
    obtain ⟨k, rfl⟩ : ∃ j, k = j + 1 := ⟨k - 1, by omega⟩
    have hlt : i < s.size := by omega
    have hdr : (bl s).drop i = s[i] :: (bl s).drop (i + 1) := drop_data s i hlt
    have hsp : bl s = (bl s).take i ++ s[i] :: (bl s).drop (i + 1) := by rw [← hdr, List.take_append_drop]
    rw [Q32.secateurref30_cut.l0, if_pos (by omega), if_pos (by omega), bt_nat s i hlt]
    by_cases h40 : s[i] = 40
    · have hl : (bl s).take i ++ (40 : UInt8) :: (bl s).drop (i + 1) = bl s := by rw [← h40]; exact hsp.symm
      have hk2 := key_at ((bl s).take i) ((bl s).drop (i + 1)) hn
      rw [hl] at hk2
      rw [if_pos (by rw [h40]; rfl), if_pos (by omega), Int.toNat_natCast, ext_front, ext_back, hk2.1, hk2.2, hdr, h40]
    · have e40 : (40 : UInt8).toNat = 40 := rfl
      have hne : ¬ ((s[i].toNat : Int) = 40) := fun h => h40 (UInt8.toNat_inj.1 (by omega))
      have hw : wrap64 ((i : Int) + 1) = ((i + 1 : Nat) : Int) := by unfold wrap64; omega
      have ih := cut_loopQ32 s hs d k (i + 1) (by omega) (by omega) (by omega) (by
        rw [List.take_succ_eq_append_getElem (by rw [bl_len]; exact hlt), List.mem_append]
        rintro (h | h)
        · exact hn h
        · rw [List.mem_singleton] at h
          have e : (bl s)[i]'(by rw [bl_len]; exact hlt) = s[i] := get_data s i hlt
          rw [e] at h
          exact h40 h.symm)
      rw [if_neg hne, hw, ih]
theorem cut_eqQ32 (s : ByteArray) (hs : s.size ≤ 1048576) (k : Nat) (hk : s.size < k) : Q32.secateurref30_cut.f k s = some (lb (keyN (bl s)), lb (keyD (bl s))) := cut_loopQ32 s hs s.size k 0 (by omega) (by omega) hk (by simp)
theorem ref_j0 (what old new : ByteArray) (k : Nat) (b : Bool) (ho : old.size ≤ 1048576) (hn : new.size ≤ 1048576) (hw : bl what = wClass ∨ bl what = wField → b = true) (hb : b = true → bl what = wClass ∨ bl what = wField) (hk : old.size < k) :
    Q31.secateurref30_Line.j0 (k + 1) what what b old new = some (lb (lineS (bl what) (bl old, bl new))) := by
  rw [Q31.secateurref30_Line.j0]
  unfold lineS
  have sp : (⟨#[32]⟩ : ByteArray).size = 1 := rfl
  have bsp : bl (⟨#[32]⟩ : ByteArray) = [32] := rfl
  by_cases h : bl what = wClass ∨ bl what = wField
  · have hz : what.size = 5 := by rcases h with h | h <;> exact size_of_bl h
    rw [if_pos (hw h), if_pos h, if_pos (by omega), if_pos (by rw [ByteArray.size_append, sp]; omega), if_pos (by rw [ByteArray.size_append, ByteArray.size_append, sp]; omega), if_pos (by rw [ByteArray.size_append, ByteArray.size_append, ByteArray.size_append, sp]; omega)]
    refine congrArg some (bl_inj ?_)
    rw [bl_lb]
    simp only [bl_append, bsp, lineL]
    simp
  · have hbf : ¬ b = true := fun q => h (hb q)
    rw [if_neg hbf, if_neg h]
    by_cases h3 : bl what = wMethod
    · have e3 : what.toList = ([109, 101, 116, 104, 111, 100] : List UInt8) := (toList_bl _).trans h3
      have hz : what.size = 6 := size_of_bl h3
      have hk1 := keyN_len (bl old)
      have hk2 := keyD_len (bl old)
      rw [bl_len] at hk1 hk2
      rw [if_pos e3, if_pos h3, cut_eqQ31 old ho k hk, Option.bind_some]
      show (if _ then _ else _) = _
      rw [if_pos (by omega), if_pos (by rw [ByteArray.size_append, sp, lb_size]; omega), if_pos (by rw [ByteArray.size_append, ByteArray.size_append, sp, lb_size]; omega), if_pos (by rw [ByteArray.size_append, ByteArray.size_append, ByteArray.size_append, sp, lb_size, lb_size]; omega),
        if_pos (by rw [ByteArray.size_append, ByteArray.size_append, ByteArray.size_append, ByteArray.size_append, sp, lb_size, lb_size]; omega), if_pos (by rw [ByteArray.size_append, ByteArray.size_append, ByteArray.size_append, ByteArray.size_append, ByteArray.size_append, sp, lb_size, lb_size]; omega)]
      refine congrArg some (bl_inj ?_)
      rw [bl_lb]
      simp only [bl_append, bsp, bl_lb, lineL]
      simp
    · have e3 : ¬ what.toList = ([109, 101, 116, 104, 111, 100] : List UInt8) := fun he => h3 ((toList_bl _).symm.trans he)
      rw [if_neg e3, if_neg h3]
      rfl
theorem refLine_eq (what old new : ByteArray) (ho : old.size ≤ 1048576) (hn : new.size ≤ 1048576) : Q31.secateurref30_Line.f (old.size + 2) what old new = some (lb (lineS (bl what) (bl old, bl new))) := by
  unfold Q31.secateurref30_Line.f
  have q1 : (what.toList = ([99, 108, 97, 115, 115] : List UInt8)) ↔ bl what = wClass := by rw [toList_bl]; exact Iff.rfl
  have q2 : (what.toList == ([99, 108, 97, 115, 115] : List UInt8)) = true ↔ bl what = wClass := by rw [beq_iff_eq, toList_bl]; exact Iff.rfl
  have q3 : (what.toList == ([102, 105, 101, 108, 100] : List UInt8)) = true ↔ bl what = wField := by rw [beq_iff_eq, toList_bl]; exact Iff.rfl
  by_cases h1 : bl what = wClass
  · rw [if_pos (q1.2 h1)]
    exact ref_j0 what old new (old.size + 1) _ ho hn (fun _ => q2.2 h1) (fun h => .inl (q2.1 h)) (by omega)
  · rw [if_neg (fun h => h1 (q1.1 h))]
    exact ref_j0 what old new (old.size + 1) _ ho hn (fun h => q3.2 (h.resolve_left h1)) (fun h => .inr (q3.1 h)) (by omega)
def secateurref30_Line.f (what old new : ByteArray) : Option ByteArray := legend_Line.f what old new
theorem secateurref30_Line.calls (a0 : ByteArray) (a1_0 : ByteArray) (a1_1 : ByteArray) (r : ByteArray) (w : World) (h : secateurref30_Line.f a0 a1_0 a1_1 = some r) :
    Calls Tryz.prog 10 #[.string a0, .agg #[.string a1_0, .string a1_1]] w fun e w' => e = .returned (.string r) ∧ Below w.heap.size w w' := by
  unfold secateurref30_Line.f legend_Line.f at h
  split at h
  · rename_i hs
    exact (Q31.secateurref30_Line.calls (a1_0.size + 2) a0 a1_0 a1_1 r w ((refLine_eq a0 a1_0 a1_1 hs.1 hs.2).trans h)).mono fun e w' ⟨he, hb⟩ => ⟨he, by first | exact hb | exact hb.below⟩
  · cases h
theorem bt_zero (c : List UInt8) (h : 0 < c.length) : bt (lb c) 0 = ((c[0]'h).toNat : Int) := by
  have h1 := bt_nat (lb c) 0 (by rw [lb_size]; exact h)
  exact h1
theorem refRead_j1 (l : List (List UInt8)) (k : Nat) (b : Bool) (a c d e : List UInt8) (hl : l = [a, c, d, e]) (hs : ∀ x ∈ l, x.length ≤ 1048576) (hb : b = decide (a = wMethod ∧ d.head? = some 40)) (hk : c.length < k) :
    Q32.secateurref30_Read.j1 (k + 1) (l.map lb) b = some (legOut (if a = wMethod ∧ (40 : UInt8) ∉ c ∧ d.head? = some 40 then (a, (c ++ d, e), true) else ([], ([], []), false))) := by
  subst hl
  rw [Q32.secateurref30_Read.j1]
  have r1 : rdOf ByteArray.empty ([a, c, d, e].map lb) 1 = lb c := rfl
  have r2 : rdOf ByteArray.empty ([a, c, d, e].map lb) 2 = lb d := rfl
  have r0 : rdOf ByteArray.empty ([a, c, d, e].map lb) 0 = lb a := rfl
  have r3 : rdOf ByteArray.empty ([a, c, d, e].map lb) 3 = lb e := rfl
  have hlen : (([a, c, d, e].map lb).length : Int) = 4 := rfl
  rw [hlen, r0, r1, r2, r3, hb]
  by_cases h : a = wMethod ∧ d.head? = some 40
  · rw [decide_eq_true h, if_pos rfl, if_pos (by decide), cut_eqQ32 (lb c) (by rw [lb_size]; exact hs c (by simp)) k (by rw [lb_size]; exact hk), Option.bind_some, bl_lb]
    show (if (lb (keyD c)).toList = ([] : List UInt8) then _ else _) = _
    rw [toList_bl, bl_lb]
    by_cases hm : (40 : UInt8) ∈ c
    · obtain ⟨r, hr⟩ := key_some hm
      rw [if_neg (by rw [hr]; exact List.cons_ne_nil _ _), if_neg (fun q => q.2.1 hm)]
      rfl
    · have hc := hs c (by simp)
      have hd := hs d (by simp)
      rw [if_pos (key_none hm).2, if_pos (by decide), if_pos (by decide), if_pos (by rw [lb_size, lb_size]; omega), if_pos (by decide), if_pos ⟨h.1, hm, h.2⟩]
      have : lb c ++ lb d = lb (c ++ d) := by apply bl_inj; rw [bl_append, bl_lb, bl_lb, bl_lb]
      rw [this]
      rfl
  · rw [decide_eq_false h, if_neg (by decide), if_neg (fun q => h ⟨q.1, q.2.2⟩)]
    rfl
theorem refRead_no (l : List (List UInt8)) (k : Nat) : Q32.secateurref30_Read.j1 (k + 1) (l.map lb) false = some (legOut ([], ([], []), false)) := by
  rw [Q32.secateurref30_Read.j1, if_neg (by decide)]
  rfl
theorem refRead_j0 (l : List (List UInt8)) (k : Nat) (hs : ∀ x ∈ l, x.length ≤ 1048576) (hk : ∀ x ∈ l, x.length < k) (b : Bool) (hb : b = true ↔ ∃ a c d, l = [a, c, d] ∧ (a = wClass ∨ a = wField)) :
    Q32.secateurref30_Read.j0 (k + 2) (l.map lb) b = some (legOut (readF l)) := by
  rw [Q32.secateurref30_Read.j0]
  cases b with
  | true =>
    obtain ⟨a, c, d, rfl, ha⟩ := hb.1 rfl
    have hlen : (([a, c, d].map lb).length : Int) = 3 := rfl
    rw [if_pos rfl, hlen, if_pos (by decide), if_pos (by decide), if_pos (by decide)]
    unfold readF
    simp only [if_pos ha]
    rfl
  | false =>
    rw [if_neg (by decide)]
    by_cases h4 : l.length = 4
    · match l, h4, hs, hk with
      | [a, c, d, e], _, hs, hk =>
        have hlen : (([a, c, d, e].map lb).length : Int) = 4 := rfl
        have r0 : rdOf ByteArray.empty ([a, c, d, e].map lb) 0 = lb a := rfl
        have r2 : rdOf ByteArray.empty ([a, c, d, e].map lb) 2 = lb d := rfl
        rw [hlen, if_pos rfl, if_pos (by decide), r0, r2]
        have fin : ∀ b, b = decide (a = wMethod ∧ d.head? = some 40) → Q32.secateurref30_Read.j1 (k + 1) ([a, c, d, e].map lb) b = some (legOut (readF [a, c, d, e])) := fun b hb => refRead_j1 [a, c, d, e] k b a c d e rfl hs hb (hk c (by simp))
        have q1 : ((lb a).toList = ([109, 101, 116, 104, 111, 100] : List UInt8)) ↔ a = wMethod := lb_word
        by_cases h3 : a = wMethod
        · rw [if_pos (q1.2 h3), if_pos (by decide), lb_size]
          cases d with
          | nil =>
            rw [if_neg (by decide)]
            exact fin _ (by rw [decide_eq_false]; rintro ⟨_, h⟩; cases h)
          | cons x d =>
            rw [if_pos (by simp), if_pos (by simp)]
            refine fin _ ?_
            rw [bt_zero (x :: d) (by simp)]
            show (((x.toNat : Int) == 40) : Bool) = _
            by_cases hx : x = 40
            · subst hx
              rw [decide_eq_true ⟨h3, rfl⟩]
              rfl
            · rw [decide_eq_false (by rintro ⟨_, h⟩; simp at h; exact hx h)]
              have e40 : (40 : UInt8).toNat = 40 := rfl
              exact beq_eq_false_iff_ne.2 fun h => hx (UInt8.toNat_inj.1 (by omega))
        · rw [if_neg (fun h => h3 (q1.1 h))]
          exact fin _ (by rw [decide_eq_false]; rintro ⟨h, _⟩; exact h3 h)
    · have hlen : ((l.map lb).length : Int) = (l.length : Int) := by rw [List.length_map]
      rw [hlen, if_neg (by omega), refRead_no]
      have : readF l = ([], ([], []), false) := by
        match l, h4, hb with
        | [], _, _ => rfl
        | [_], _, _ => rfl
        | [_, _], _, _ => rfl
        | [a, c, d], _, hb =>
          unfold readF
          have : ¬ (a = wClass ∨ a = wField) := fun h => by have := hb.2 ⟨a, c, d, rfl, h⟩; cases this
          simp only [if_neg this]
        | [_, _, _, _], h, _ => exact absurd rfl h
        | _ :: _ :: _ :: _ :: _ :: _, _, _ => rfl
      rw [this]
theorem refRead_eq (s : ByteArray) (hs : s.size ≤ 1000000) : Q32.secateurref30_Read.f (s.size + 3) s = some (legOut (readS (bl s))) := by
  unfold Q32.secateurref30_Read.f secateurref04_Fields.f word_Fields.f readS
  rw [if_pos (by omega), Option.bind_some]
  have hsz : ∀ a ∈ fieldsL (bl s), a.length ≤ s.size := fun a ha => by
    have := fld_mem (bl s) [] a ha
    rw [bl_len] at this
    simpa using this
  generalize fieldsL (bl s) = l at hsz ⊢
  have go := fun b hb => refRead_j0 l (s.size + 1) (fun x hx => by have := hsz x hx; omega) (fun x hx => by have := hsz x hx; omega) b hb
  have q1 : ∀ x : List UInt8, ((lb x).toList = ([99, 108, 97, 115, 115] : List UInt8)) ↔ x = wClass := fun x => lb_word
  have q3 : ∀ x : List UInt8, ((lb x).toList == ([102, 105, 101, 108, 100] : List UInt8)) = decide (x = wField) := fun x => lb_beq x wField
  have hlen : ((l.map lb).length : Int) = (l.length : Int) := by rw [List.length_map]
  rw [hlen]
  by_cases h3 : l.length = 3
  · match l, h3, go with
    | [a, c, d], _, go =>
      have r0 : rdOf ByteArray.empty ([a, c, d].map lb) 0 = lb a := rfl
      rw [if_pos (by rfl), if_pos (by simp), r0]
      by_cases h1 : a = wClass
      · rw [if_pos ((q1 a).2 h1)]
        exact go _ ⟨fun _ => ⟨a, c, d, rfl, .inl h1⟩, fun _ => rfl⟩
      · rw [if_neg (fun h => h1 ((q1 a).1 h)), q3]
        refine go _ ⟨fun h => ⟨a, c, d, rfl, .inr (of_decide_eq_true h)⟩, ?_⟩
        rintro ⟨a', c', d', h, h2⟩
        simp only [List.cons.injEq] at h
        obtain ⟨rfl, _⟩ := h
        exact decide_eq_true (h2.resolve_left h1)
  · rw [if_neg (by omega)]
    refine go _ ⟨(fun h => by cases h), ?_⟩
    rintro ⟨a, c, d, rfl, _⟩
    exact absurd rfl h3
def secateurref30_Read.f (s : ByteArray) : Option (ByteArray × ByteArray × ByteArray × Bool) := if s.size ≤ 1000000 then some (legOut (readS (bl s))) else none
theorem secateurref30_Read.calls (a0 : ByteArray) (r1 : ByteArray) (r2 : ByteArray) (r3 : ByteArray) (r4 : Bool) (w : World) (h : secateurref30_Read.f a0 = some (r1, r2, r3, r4)) :
    Calls Tryz.prog 8 #[.string a0] w fun e w' => e = .returned (.tuple #[.string r1, .agg #[.string r2, .string r3], .bool r4]) ∧ Below w.heap.size w w' := by
  unfold secateurref30_Read.f at h
  split at h
  · rename_i hs
    exact Q32.secateurref30_Read.calls (a0.size + 3) a0 r1 r2 r3 r4 w ((refRead_eq a0 hs).trans h)
  · cases h
end Go.Proofs.YtaokkkolbifdpaaGreatDoor.Hand
end

section
namespace Go.Proofs.YtaokkkolbifdpaaGreatDoor.PLegendLines
open Go.RowKit Go.Proofs.YtaokkkolbifdpaaGreatDoorW.PrintWords Go.Proofs.YtaokkkolbifdpaaGreatDoorW.PrintLast Go.Proofs.YtaokkkolbifdpaaGreatDoorW.PrintMore Go.Proofs.YtaokkkolbifdpaaGreatDoor.Hand
attribute [local go_sem] max2_int min2_int max_two min_two max_three min_three max_four min_four   -- for this text's walks alone
set_option linter.unusedVariables false
set_option linter.unusedSimpArgs false
def errW : Option Int → Value
  | none => .nilIface
  | some c => .iface 0 (.int .i64 c)
theorem errW_none : errW none = .nilIface := rfl
theorem errW_some (c : Int) : errW (some c) = .iface 0 (.int .i64 c) := rfl
end Go.Proofs.YtaokkkolbifdpaaGreatDoor.PLegendLines
end

section
namespace Go.Proofs.YtaokkkolbifdpaaGreatDoor.PLegendLines
open Go.RowKit Go.Proofs.YtaokkkolbifdpaaGreatDoorW.PrintWords Go.Proofs.YtaokkkolbifdpaaGreatDoorW.PrintLast Go.Proofs.YtaokkkolbifdpaaGreatDoorW.PrintMore Go.Proofs.YtaokkkolbifdpaaGreatDoor.Hand
attribute [local go_sem] max2_int min2_int max_two min_two max_three min_three max_four min_four   -- for this text's walks alone
set_option linter.unusedVariables false
set_option linter.unusedSimpArgs false
theorem eqA23 (d : Nat) (w : World) (x0 y0 : ByteArray) (x1 y1 : ByteArray) :
    (Op.equalIn (d + 2) 23 (.agg #[.string x0, .string x1]) (.agg #[.string y0, .string y1])).run Tryz.prog w = .ok (x0.toList == y0.toList && (x1.toList == y1.toList)) w := by
  refine eqA_of Tryz.underlying23 (by kernel_rfl) ?_
  refine eqf_cons (by rfl) (by go_simp; rfl) (by go_simp; rfl) (by go_simp) ?_
  exact eqf_last (by rfl) (by go_simp; rfl) (by go_simp; rfl) (by go_simp)
end Go.Proofs.YtaokkkolbifdpaaGreatDoor.PLegendLines
end

section
namespace Go.Proofs.YtaokkkolbifdpaaGreatDoor.PLegendLines
open Go.RowKit Go.Proofs.YtaokkkolbifdpaaGreatDoorW.PrintWords Go.Proofs.YtaokkkolbifdpaaGreatDoorW.PrintLast Go.Proofs.YtaokkkolbifdpaaGreatDoorW.PrintMore Go.Proofs.YtaokkkolbifdpaaGreatDoor.Hand
attribute [local go_sem] max2_int min2_int max_two min_two max_three min_three max_four min_four   -- for this text's walks alone
set_option linter.unusedVariables false
set_option linter.unusedSimpArgs false
end Go.Proofs.YtaokkkolbifdpaaGreatDoor.PLegendLines
end
