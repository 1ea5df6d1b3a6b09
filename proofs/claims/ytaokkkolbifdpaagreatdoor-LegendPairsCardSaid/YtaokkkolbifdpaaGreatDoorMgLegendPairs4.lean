import Derived.Test.YtaokkkolbifdpaaGreatDoorMgLegendPairs3
import Derived.Deep.RegionWith
import Derived.Test.YtaokkkolbifdpaaGreatDoorMgLegendPairs1
import Derived.Test.YtaokkkolbifdpaaGreatDoorProg
import Derived.Below
import Derived.Deep.Draws
import Derived.Deep.AppendLies
import Derived.Maps.AppendAt
import Derived.OwnWalk
import Derived.Laws.BytesArg
import Derived.Laws.MakeOwn
import Derived.Laws.OwnMore
import Derived.Deep.OwnRows
import Derived.Tactics
import Derived.Lib.ConvBytes
import Derived.Laws.Slices
import Derived.WalkKit
import Derived.KernelRfl
import Derived.RowKit3
import Derived.Deep.LoopGhost
import Derived.Deep.QuietTactic
import Derived.BigQuiet
import Derived.WideLaws
import Derived.Deep.DeepCutAuto
import Derived.Deep.CutBlock
import Derived.Deep.RegionHeld3
import Derived.Laws.Rows
import Derived.Lib.AppendStr
import Derived.ArgAppend
import Derived.Laws.IdiomCopy
import Derived.OrdersHeld
import Derived.Laws.BitsLemmas
import Derived.RowKit
import Derived.Test.YtaokkkolbifdpaaGreatDoorMgLegendPairs0
import Derived.Test.YtaokkkolbifdpaaGreatDoorRows
import Derived.OpenShut
import Derived.SliceStrings
import Derived.ProofKit
import Derived.ChangeSame
import Derived.Lib.SmallJoins
import Derived.SizedLaws
section
namespace Go.Proofs.YtaokkkolbifdpaaGreatDoor.Hand
open Go.RowKit Go.Proofs.YtaokkkolbifdpaaGreatDoorW.PrintWords Go.Proofs.YtaokkkolbifdpaaGreatDoorW.PrintLast Go.Proofs.YtaokkkolbifdpaaGreatDoorW.PrintMore
set_option linter.unusedVariables false
set_option linter.unusedSimpArgs false
def ParsedTo (w : World) (q : L3 × (Int × Int)) (e : Ending) (w' : World) : Prop := ∃ v0 v1 v2, e = .returned (.tuple #[.agg #[v0, v1, v2], .agg #[.int .i64 q.2.1, .int .i64 q.2.2]]) ∧ Kd.R k23 23 w' w.heap.size (fun _ => True) v0 q.1.1 ∧ Kd.R k23 23 w' w.heap.size (fun _ => True) v1 q.1.2.1 ∧ Kd.R k23 23 w' w.heap.size (fun _ => True) v2 q.1.2.2 ∧ Below w.heap.size w w'
theorem read_call (s : ByteArray) (hs : s.size ≤ 1048576) (W : World) (hM : MaxL W) : Calls Tryz.prog 7 #[.string s] W fun e w' => e = .returned (.tuple #[.string (lb (readS (bl s)).1), .agg #[.string (toP (readS (bl s)).2.1).f0, .string (toP (readS (bl s)).2.1).f1], .bool (readS (bl s)).2.2]) ∧ Below W.heap.size W w' :=
  Q32.legend_Read.calls 1 s _ _ _ _ W hM (legRead_eq s hs)
theorem put_call (base g : Nat) (v0 v1 v2 : Value) (m : L3) (what : List UInt8) (x : List UInt8 × List UInt8) (w : World) (hw : what = wClass ∨ what = wField ∨ what = wMethod) (hm : MOwn w base g v0 v1 v2 m.1 m.2.1 m.2.2) (hl : m.1.length + m.2.1.length + m.2.2.length ≤ 1048576) (hbz : base ≤ w.heap.size) :
    Calls Tryz.prog 32 #[.pointer (some ⟨g, 0, none⟩), .string (lb what), .agg #[.string (toP x).f0, .string (toP x).f1]] w fun e w' => ∃ u0 u1 u2, e = .returned (.tuple #[]) ∧ MOwn w' base g u0 u1 u2 (putS m what x).1 (putS m what x).2.1 (putS m what x).2.2 ∧ Below base w w' := by
  have n1 : wField ≠ wClass := by decide
  have n2 : wMethod ≠ wClass := by decide
  have n3 : wMethod ≠ wField := by decide
  rcases hw with rfl | rfl | rfl
  · refine (put_0 base g v0 v1 v2 m.1 m.2.1 m.2.2 (lb wClass) (toP x) w hm (by rw [toList_bl]; rfl) (by omega) hbz).mono ?_
    rintro e w' ⟨v', he, h, hb⟩
    unfold putS
    rw [if_pos rfl]
    exact ⟨v', v1, v2, he, h, hb⟩
  · refine (put_1 base g v0 v1 v2 m.1 m.2.1 m.2.2 (lb wField) (toP x) w hm (by rw [toList_bl]; rfl) (by omega) hbz).mono ?_
    rintro e w' ⟨v', he, h, hb⟩
    unfold putS
    rw [if_neg n1, if_pos rfl]
    exact ⟨v0, v', v2, he, h, hb⟩
  · refine (put_2 base g v0 v1 v2 m.1 m.2.1 m.2.2 (lb wMethod) (toP x) w hm (by rw [toList_bl]; rfl) (by omega) hbz).mono ?_
    rintro e w' ⟨v', he, h, hb⟩
    unfold putS
    rw [if_neg n2, if_neg n3, if_pos rfl]
    exact ⟨v0, v1, v', he, h, hb⟩
theorem set2_own {w : World} {R : Nat} {t : TypeId} {u0 u1 : Value} (h : w.heap[R]? = some (Obj.cells #[u0, u1] t (0, 0))) (v0 v1 : Value) : ((w.setCell ⟨R, 0, none⟩ v0).setCell ⟨R, 1, none⟩ v1).heap[R]? = some (Obj.cells #[v0, v1] t (0, 0)) := blk_put (cs' := #[v0, v1]) (blk_put (cs' := #[v0, u1]) h 0 v0 rfl) 1 v1 rfl
theorem set3_own {w : World} {R : Nat} {t : TypeId} {u0 u1 u2 : Value} (h : w.heap[R]? = some (Obj.cells #[u0, u1, u2] t (0, 0))) (v0 v1 v2 : Value) : (((w.setCell ⟨R, 0, none⟩ v0).setCell ⟨R, 1, none⟩ v1).setCell ⟨R, 2, none⟩ v2).heap[R]? = some (Obj.cells #[v0, v1, v2] t (0, 0)) := blk_put (cs' := #[v0, v1, v2]) (blk_put (cs' := #[v0, v1, u2]) (blk_put (cs' := #[v0, u1, u2]) h 0 v0 rfl) 1 v1 rfl) 2 v2 rfl
theorem set2_far {w : World} {R k : Nat} (h : k ≠ R) (v0 v1 : Value) : ((w.setCell ⟨R, 0, none⟩ v0).setCell ⟨R, 1, none⟩ v1).heap[k]? = w.heap[k]? := by rw [Below.heap_setCell _ _ _ _ h, Below.heap_setCell _ _ _ _ h]
theorem set3_far {w : World} {R k : Nat} (h : k ≠ R) (v0 v1 v2 : Value) : (((w.setCell ⟨R, 0, none⟩ v0).setCell ⟨R, 1, none⟩ v1).setCell ⟨R, 2, none⟩ v2).heap[k]? = w.heap[k]? := by rw [Below.heap_setCell _ _ _ _ h, Below.heap_setCell _ _ _ _ h, Below.heap_setCell _ _ _ _ h]
set_option maxHeartbeats 32000000 in
set_option maxRecDepth 20000 in
theorem legend_parse (s : ByteArray) (hs : s.size ≤ 1048576) (w : World) (hM : MaxL w) : Calls Tryz.prog 15 #[.string s] w (ParsedTo w (parseS (bl s))) := by
  have HLn := Aside0.mk (word_Lines.calls s ((linesL (bl s)).1.map lb) (linesL (bl s)).2.1 (linesL (bl s)).2.2 ((w.alloc (Obj.cells #[.slice none 0 0, .slice none 0 0, .slice none 0 0] 34)).alloc (Obj.cells #[.int .i64 0, .int .i64 0] 40)) (hM.below (below_alloc (below_alloc (Below.refl _ _) _) _)) (by unfold word_Lines.f; rw [if_pos (by omega)]))
  have hM0 : MaxL ((w.alloc (Obj.cells #[.slice none 0 0, .slice none 0 0, .slice none 0 0] 34)).alloc (Obj.cells #[.int .i64 0, .int .i64 0] 40)) := hM.below (below_alloc (below_alloc (Below.refl _ _) _) _)
  have HB0 := Aside0.mk (below_alloc (below_alloc (Below.refl w.heap.size w) (Obj.cells #[.slice none 0 0, .slice none 0 0, .slice none 0 0] 34)) (Obj.cells #[.int .i64 0, .int .i64 0] 40))
  have hz2 := blk_alloc (World.alloc_heap_new w (Obj.cells #[.slice none 0 0, .slice none 0 0, .slice none 0 0] 34)) (Obj.cells #[.int .i64 0, .int .i64 0] 40)
  have hz3 := World.alloc_heap_new (w.alloc (Obj.cells #[.slice none 0 0, .slice none 0 0, .slice none 0 0] 34)) (Obj.cells #[.int .i64 0, .int .i64 0] 40)
  rw [World.size_alloc] at hz3
  obtain ⟨ls, er, at_, hls⟩ : ∃ ls er at_, linesL (bl s) = (ls, er, at_) := ⟨_, _, _, rfl⟩
  have hbound : er = 0 → ls.length ≤ 65536 ∧ ∀ x ∈ ls, x.length ≤ 65536 := fun h => by
    have := lines_bound (s := bl s) (by rw [hls]; exact h)
    rw [hls] at this
    exact this
  have hq : parseS (bl s) = (if er ≠ 0 then (([], [], []), (er, at_)) else if (readsF ls 0 ([], [], [])).2 ≠ 0 then (([], [], []), (1, (readsF ls 0 ([], [], [])).2)) else
      if (printS (readsF ls 0 ([], [], [])).1.1 (readsF ls 0 ([], [], [])).1.2.1 (readsF ls 0 ([], [], [])).1.2.2).2 ≠ 0 ∨ (printS (readsF ls 0 ([], [], [])).1.1 (readsF ls 0 ([], [], [])).1.2.1 (readsF ls 0 ([], [], [])).1.2.2).1 ≠ bl s then (([], [], []), (5, 0)) else ((readsF ls 0 ([], [], [])).1, (0, 0))) := by
    unfold parseS
    rw [hls]
  rw [hls] at HLn
  have HZ2 := Aside0.mk hz2
  have HZ3 := Aside0.mk hz3
  have HM0 := Aside0.mk hM0
  by_cases her : er = 0
  · obtain ⟨hb1, hb2⟩ := hbound her
    subst her
    rw [if_neg (fun h => h rfl)] at hq
    obtain ⟨R, hR⟩ : ∃ R, R = readsF ls 0 ([], [], []) := ⟨_, rfl⟩
    rw [← hR] at hq
    have HR := Aside0.mk hR
    have HQ := Aside0.mk hq
    have HBd := Aside0.mk (And.intro hb1 hb2)
    have hlen : (ls.map lb).length = ls.length := List.length_map _
    clear hq hbound hb1 hb2 hz2 hz3 hM0 hM hls hR
    have e0 : ((0 : Int) != 0) = false := rfl
    obtain ⟨q, hqq⟩ : ∃ q, q = parseS (bl s) := ⟨_, rfl⟩
    rw [← hqq] at HQ ⊢
    clear hqq
    go_enter Tryz.func15, Tryz.ntmps15
    go_wp2_with fail
    refine HLn.out.mono ?_
    rintro e w1 ⟨vL, rfl, hRL, hb⟩
    obtain ⟨AL, cL, rfl, hcL, hCL⟩ := Kd.R_reads hRL
    rw [hlen] at hcL
    have HCL := Aside0.mk hCL
    have HZ21 := Aside0.mk (blk_below HZ2.out hb)
    have HZ31 := Aside0.mk (blk_below HZ3.out hb)
    have HB1 := Aside0.mk (below_step HB0.out hb)
    have HM1 := Aside0.mk (HM0.out.below hb)
    clear hb hRL hCL
    go_wp2_with fail
    have HW5 := Aside0.mk (below_alloc (below_alloc (Below.refl w1.heap.size w1) (Obj.cells #[.int .i64 0, .int .i64 at_] 40)) (Obj.cells #[.slice none 0 0, .slice none 0 0, .slice none 0 0] 34))
    have hown := World.alloc_heap_new (w1.alloc (Obj.cells #[.int .i64 0, .int .i64 at_] 40)) (Obj.cells #[.slice none 0 0, .slice none 0 0, .slice none 0 0] 34)
    rw [World.size_alloc] at hown
    have hsz : w1.heap.size + 1 ≤ ((w1.alloc (Obj.cells #[.int .i64 0, .int .i64 at_] 40)).alloc (Obj.cells #[.slice none 0 0, .slice none 0 0, .slice none 0 0] 34)).heap.size := by rw [World.size_alloc, World.size_alloc]; omega
    obtain ⟨w5, hw5⟩ : ∃ W, (w1.alloc (Obj.cells #[.int .i64 0, .int .i64 at_] 40)).alloc (Obj.cells #[.slice none 0 0, .slice none 0 0, .slice none 0 0] 34) = W := ⟨_, rfl⟩
    rw [hw5] at HW5 hown hsz ⊢
    have nob : ∀ (a : Value), ∀ q, (Value.slice none 0 0).ownBlock = some q → some q ≠ a.ownBlock := fun a q h => by simp [Value.ownBlock] at h
    have HMO := Aside0.mk (MOwn.mk (base := w1.heap.size + 1) (l0 := ([] : List S23)) (l1 := ([] : List S23)) (l2 := ([] : List S23)) hown (Nat.le_refl _) (Kd.R_nil _ _ _ _ _) (Kd.R_nil _ _ _ _ _) (Kd.R_nil _ _ _ _ _) (nob _) (nob _) (nob _) (nob _) (nob _) (nob _))
    have HSZ := Aside0.mk hsz
    clear hw5 hown hsz nob
    go_loopg [26] ls.length (fun kq v26 wr => ∃ (i : Nat) (v0 v1 v2 : Value) (m : L3), v26 = .int .i64 (i : Int) ∧ i + kq = ls.length ∧ Aside0 (MOwn wr (w1.heap.size + 1) (w1.heap.size + 1) v0 v1 v2 m.1 m.2.1 m.2.2) ∧ Aside0 (readsF (ls.drop i) i m = R) ∧ Aside0 (okM m i) ∧ Aside0 (Below w1.heap.size w1 wr) ∧ Aside0 (w1.heap.size + 1 ≤ wr.heap.size))
    case atStart => exact ⟨0, _, _, _, ([], [], []), rfl, by omega, HMO, ⟨HR.out.symm⟩, ⟨by simp [okM]⟩, HW5, HSZ⟩
    case round =>
      obtain ⟨i, v0, v1, v2, m, rfl, hi, HO, HRe, HOk, HBw, HSw⟩ := hrel
      clear HMO HSZ HW5
      have hb65 := HBd.out.1
      have HZ2r := Aside0.mk (blk_below HZ21.out HBw.out)
      have HZ3r := Aside0.mk (blk_below HZ31.out HBw.out)
      have HMr := Aside0.mk (HM1.out.below HBw.out)
      have HBr := Aside0.mk (below_step HB1.out HBw.out)
      by_cases hlt : i < ls.length
      · obtain ⟨ad, hA, h0⟩ := Kd.at_string (Kd.C_below HCL.out HBw.out) (i : Int) (by omega) (by rw [hlen]; omega)
        subst hA
        rw [Int.toNat_natCast, rd_map ls i hlt] at h0
        have hdrop : ls.drop i = ls[i] :: ls.drop (i + 1) := List.drop_eq_getElem_cons hlt
        have hx65 := HBd.out.2 ls[i] (List.getElem_mem hlt)
        obtain ⟨x, hx⟩ : ∃ x, x = ls[i] := ⟨_, rfl⟩
        rw [← hx] at h0 hdrop hx65
        have hre := HRe.out
        rw [hdrop, readsF] at hre
        have hd : decide ((i : Int) < (ls.length : Int)) = true := decide_eq_true (by omega)
        have HRd := Aside0.mk (read_call (lb x) (by rw [lb_size]; omega) wr HMr.out)
        rw [bl_lb] at HRd
        have HPut := Aside0.mk (fun (hr : (readS x).2.2 = true) W hW hz => put_call (w1.heap.size + 1) (w1.heap.size + 1) v0 v1 v2 m (readS x).1 (readS x).2.1 W (readS_len x hr).2.2 hW (by have := HOk.out.1; omega) hz)
        have HOk2 := Aside0.mk (fun (hr : (readS x).2.2 = true) => okM_put HOk.out hr (by omega))
        clear hx hdrop
        cases hok : (readS x).2.2 with
        | true =>
          rw [hok, if_pos rfl] at hre
          rw [hok] at HRd
          have HRe2 := Aside0.mk hre
          have HOk3 := Aside0.mk (HOk2.out hok)
          have HPut2 := Aside0.mk (HPut.out hok)
          clear hok hre HPut HOk2
          go_wp2_with fail
          refine HRd.out.mono ?_
          rintro e w2 ⟨rfl, hb⟩
          have hb2 := below_alloc hb (Obj.cells #[.string (toP (readS x).2.1).f0, .string (toP (readS x).2.1).f1] 23)
          have HO2 := Aside0.mk (HO.out.below hb2 HSw.out)
          have HBw2 := Aside0.mk (below_step HBw.out hb2)
          have HSw2 := Aside0.mk (Nat.le_trans HSw.out hb2.size)
          clear hb hb2 h0
          go_wp2_with fail
          refine (HPut2.out _ HO2.out HSw2.out).mono ?_
          rintro e w3 ⟨u0, u1, u2, rfl, hmo, hb3⟩
          have HO3 := Aside0.mk hmo
          have HBw3 := Aside0.mk (HBw2.out.trans (hb3.mono (Nat.le_succ _)))
          have HSw3 := Aside0.mk (Nat.le_trans HSw2.out hb3.size)
          clear hmo hb3
          go_wp2_with fail
          go_roundg (gk - 1)
          case measure => omega
          case rel => exact ⟨i + 1, u0, u1, u2, putS m (readS x).1 (readS x).2.1, by simp, by omega, HO3, HRe2, HOk3, HBw3, HSw3⟩
        | false =>
          rw [hok, if_neg (by decide)] at hre
          rw [hok] at HRd
          have HQ2 : Aside0 (q = (([], [], []), (1, (i : Int) + 1))) := ⟨by
            have h1 := HQ.out
            rw [← hre] at h1
            rw [h1, if_pos (by show ¬ ((i : Int) + 1 = 0); omega)]⟩
          have q1 : (0 : Int) ≤ (i : Int) := by omega
          have q2 : (i : Int) ≤ 65536 := by omega
          clear hok hre HPut HOk2
          go_wp2_with fail
          refine HRd.out.mono ?_
          rintro e w2 ⟨rfl, hb⟩
          have HB2 := Aside0.mk (below_step HBr.out hb)
          have HZ2s := Aside0.mk (blk_below HZ2r.out hb)
          have HZ3s := Aside0.mk (blk_below HZ3r.out hb)
          clear h0
          obtain ⟨a0, a1, a2⟩ : w2.cell? ⟨w.heap.size, 0, none⟩ = some (.slice none 0 0) ∧ w2.cell? ⟨w.heap.size, 1, none⟩ = some (.slice none 0 0) ∧ w2.cell? ⟨w.heap.size, 2, none⟩ = some (.slice none 0 0) := ⟨blk_cell (blk_below HZ2r.out hb) 0, blk_cell (blk_below HZ2r.out hb) 1, blk_cell (blk_below HZ2r.out hb) 2⟩
          obtain ⟨c0, c1⟩ : w2.cell? ⟨w.heap.size + 1, 0, none⟩ = some (.int .i64 0) ∧ w2.cell? ⟨w.heap.size + 1, 1, none⟩ = some (.int .i64 0) := ⟨blk_cell (blk_below HZ3r.out hb) 0, blk_cell (blk_below HZ3r.out hb) 1⟩
          have f2 := blk_frozen (blk_below HZ2r.out hb)
          have f3 := blk_frozen (blk_below HZ3r.out hb)
          have g2 := blk_lt (blk_below HZ2r.out hb)
          have g3 := blk_lt (blk_below HZ3r.out hb)
          clear hb
          go_wp2_with fail
          rw [HQ2.out]
          exact bodyPost_ret (results_cc rfl _ _ w.heap.size (w.heap.size + 1) 34 40 #[.slice none 0 0, .slice none 0 0, .slice none 0 0] #[.int .i64 1, .int .i64 ((i : Int) + 1)] (0, 0) (0, 0) _ _ rfl (blk_alloc ((set2_far (by omega) _ _).trans (set3_own HZ2s.out _ _ _)) _) Tryz.underlying34 rfl (by kernel_rfl) rfl (blk_alloc (set2_own ((set3_far (by omega) _ _ _).trans HZ3s.out) _ _) _) Tryz.underlying40 rfl (by kernel_rfl)) rfl ⟨_, _, _, rfl, Kd.R_nil _ _ _ _ _, Kd.R_nil _ _ _ _ _, Kd.R_nil _ _ _ _ _, below_alloc (below_set (below_set (below_set (below_set (below_set HB2.out (Nat.le_refl _)) (Nat.le_refl _)) (Nat.le_refl _)) (by omega)) (by omega)) _⟩
      · have hil : i = ls.length := by omega
        obtain ⟨l0, l1, l2⟩ := m
        have hre : R = ((l0, l1, l2), 0) := by
          have h := HRe.out
          rw [List.drop_of_length_le (by omega)] at h
          exact h.symm
        have hqq : q = (if (printS l0 l1 l2).2 ≠ 0 ∨ (printS l0 l1 l2).1 ≠ bl s then (([], [], []), (5, 0)) else ((l0, l1, l2), (0, 0))) := by
          have h := HQ.out
          rw [hre, if_neg (fun h => h rfl)] at h
          exact h
        obtain ⟨A0, c0, rfl, hc0, hC0⟩ := Kd.R_reads HO.out.r0
        obtain ⟨A1, c1, rfl, hc1, hC1⟩ := Kd.R_reads HO.out.r1
        obtain ⟨A2, c2, rfl, hc2, hC2⟩ := Kd.R_reads HO.out.r2
        have HPr := Aside0.mk (legend_print' A0 c0 l0 A1 c1 l1 A2 c2 l2 wr hC0 hc0 hC1 hc1 hC2 hc2 ⟨by have := HOk.out.1; omega, HOk.out.2⟩ HMr.out)
        obtain ⟨t, pe, hp⟩ : ∃ t pe, printS l0 l1 l2 = (t, pe) := ⟨_, _, rfl⟩
        rw [hp] at HPr hqq
        replace hqq : q = (if pe ≠ 0 ∨ t ≠ bl s then (([], [], []), (5, 0)) else ((l0, l1, l2), (0, 0))) := hqq
        have HQQ := Aside0.mk hqq
        have hd : decide ((i : Int) < (ls.length : Int)) = false := decide_eq_false (by omega)
        obtain ⟨m0, m1, m2⟩ : wr.cell? ⟨w1.heap.size + 1, 0, none⟩ = some (.slice A0 l0.length c0) ∧ wr.cell? ⟨w1.heap.size + 1, 1, none⟩ = some (.slice A1 l1.length c1) ∧ wr.cell? ⟨w1.heap.size + 1, 2, none⟩ = some (.slice A2 l2.length c2) := ⟨blk_cell HO.out.b 0, blk_cell HO.out.b 1, blk_cell HO.out.b 2⟩
        have hwl : w.heap.size + 1 < w1.heap.size := blk_lt HZ31.out
        clear hre hqq hp hC0 hC1 hC2 hil
        go_wp2_with fail
        refine HPr.out.mono ?_
        rintro e w6 ⟨rfl, hb⟩
        have HO6 := Aside0.mk (HO.out.below hb HSw.out)
        have HZ6 := Aside0.mk (blk_below HZ2r.out hb)
        have HZ63 := Aside0.mk (blk_below HZ3r.out hb)
        have HB6 := Aside0.mk (below_step HBr.out hb)
        obtain ⟨a0, a1, a2⟩ : w6.cell? ⟨w.heap.size, 0, none⟩ = some (.slice none 0 0) ∧ w6.cell? ⟨w.heap.size, 1, none⟩ = some (.slice none 0 0) ∧ w6.cell? ⟨w.heap.size, 2, none⟩ = some (.slice none 0 0) := ⟨blk_cell HZ6.out 0, blk_cell HZ6.out 1, blk_cell HZ6.out 2⟩
        obtain ⟨d0, d1⟩ : w6.cell? ⟨w.heap.size + 1, 0, none⟩ = some (.int .i64 0) ∧ w6.cell? ⟨w.heap.size + 1, 1, none⟩ = some (.int .i64 0) := ⟨blk_cell HZ63.out 0, blk_cell HZ63.out 1⟩
        have f2 := blk_frozen HZ6.out
        have f3 := blk_frozen HZ63.out
        have g2 := blk_lt HZ6.out
        have g3 := blk_lt HZ63.out
        clear hb m0 m1 m2
        by_cases hpe : pe = 0
        · subst hpe
          have p1 : ((0 : Int) != 0) = false := rfl
          by_cases hts : t = bl s
          · have HQ2 : Aside0 (q = ((l0, l1, l2), (0, 0))) := ⟨by rw [HQQ.out, if_neg (fun h => h.elim (fun h => h rfl) (fun h => h hts))]⟩
            have hlt' : lb t = s := by rw [hts, lb_bl]
            have t1 : ((lb t).toList == s.toList) = true := by rw [hlt']; exact beq_self_eq_true _
            obtain ⟨m0, m1, m2⟩ : w6.cell? ⟨w1.heap.size + 1, 0, none⟩ = some (.slice A0 l0.length c0) ∧ w6.cell? ⟨w1.heap.size + 1, 1, none⟩ = some (.slice A1 l1.length c1) ∧ w6.cell? ⟨w1.heap.size + 1, 2, none⟩ = some (.slice A2 l2.length c2) := ⟨blk_cell HO6.out.b 0, blk_cell HO6.out.b 1, blk_cell HO6.out.b 2⟩
            clear hts hlt'
            go_wp2_with fail
            rw [HQ2.out]
            have hmv : ∀ (v : Value) (l : List S23), Kd.R k23 23 w6 (w1.heap.size + 1) (fun _ => True) v l → Kd.R k23 23 ((((((w6.setCell ⟨w.heap.size, 0, none⟩ (.slice A0 l0.length c0)).setCell ⟨w.heap.size, 1, none⟩ (.slice A1 l1.length c1)).setCell ⟨w.heap.size, 2, none⟩ (.slice A2 l2.length c2)).setCell ⟨w.heap.size + 1, 0, none⟩ (.int .i64 0)).setCell ⟨w.heap.size + 1, 1, none⟩ (.int .i64 0))) w.heap.size (fun _ => True) v l := fun v l h =>
              Kd.R_lower (Kd.R_mono (Kd.R_move (Kd.R_bound h) (fun k hk => (set2_far (by have := hk.2.1; omega) _ _).trans (set3_far (by have := hk.2.1; omega) _ _ _))) (fun _ _ => trivial)) (by omega)
            have hb2 : ((((((w6.setCell ⟨w.heap.size, 0, none⟩ (.slice A0 l0.length c0)).setCell ⟨w.heap.size, 1, none⟩ (.slice A1 l1.length c1)).setCell ⟨w.heap.size, 2, none⟩ (.slice A2 l2.length c2)).setCell ⟨w.heap.size + 1, 0, none⟩ (.int .i64 0)).setCell ⟨w.heap.size + 1, 1, none⟩ (.int .i64 0))).heap[w.heap.size]? = some (Obj.cells #[.slice A0 l0.length c0, .slice A1 l1.length c1, .slice A2 l2.length c2] 34 (0, 0)) := (set2_far (by omega) _ _).trans (set3_own HZ6.out _ _ _)
            have hb3 : ((((((w6.setCell ⟨w.heap.size, 0, none⟩ (.slice A0 l0.length c0)).setCell ⟨w.heap.size, 1, none⟩ (.slice A1 l1.length c1)).setCell ⟨w.heap.size, 2, none⟩ (.slice A2 l2.length c2)).setCell ⟨w.heap.size + 1, 0, none⟩ (.int .i64 0)).setCell ⟨w.heap.size + 1, 1, none⟩ (.int .i64 0))).heap[w.heap.size + 1]? = some (Obj.cells #[.int .i64 0, .int .i64 0] 40 (0, 0)) := set2_own ((set3_far (by omega) _ _ _).trans HZ63.out) _ _
            have hbw : Below w.heap.size w ((((((w6.setCell ⟨w.heap.size, 0, none⟩ (.slice A0 l0.length c0)).setCell ⟨w.heap.size, 1, none⟩ (.slice A1 l1.length c1)).setCell ⟨w.heap.size, 2, none⟩ (.slice A2 l2.length c2)).setCell ⟨w.heap.size + 1, 0, none⟩ (.int .i64 0)).setCell ⟨w.heap.size + 1, 1, none⟩ (.int .i64 0))) := below_set (below_set (below_set (below_set (below_set HB6.out (Nat.le_refl _)) (Nat.le_refl _)) (Nat.le_refl _)) (by omega)) (by omega)
            have k0 := hmv _ _ HO6.out.r0
            have k1 := hmv _ _ HO6.out.r1
            have k2 := hmv _ _ HO6.out.r2
            clear hmv
            obtain ⟨wf, hwf⟩ : ∃ W, W = ((((((w6.setCell ⟨w.heap.size, 0, none⟩ (.slice A0 l0.length c0)).setCell ⟨w.heap.size, 1, none⟩ (.slice A1 l1.length c1)).setCell ⟨w.heap.size, 2, none⟩ (.slice A2 l2.length c2)).setCell ⟨w.heap.size + 1, 0, none⟩ (.int .i64 0)).setCell ⟨w.heap.size + 1, 1, none⟩ (.int .i64 0))) := ⟨_, rfl⟩
            rw [← hwf] at hb2 hb3 hbw k0 k1 k2 ⊢
            clear hwf
            exact bodyPost_ret (results_cc rfl _ _ w.heap.size (w.heap.size + 1) 34 40 #[.slice A0 l0.length c0, .slice A1 l1.length c1, .slice A2 l2.length c2] #[.int .i64 0, .int .i64 0] (0, 0) (0, 0) _ _ rfl hb2 Tryz.underlying34 rfl (by kernel_rfl) rfl hb3 Tryz.underlying40 rfl (by kernel_rfl)) rfl ⟨_, _, _, rfl, k0, k1, k2, hbw⟩
          · have HQ2 : Aside0 (q = (([], [], []), (5, 0))) := ⟨by rw [HQQ.out, if_pos (.inr hts)]⟩
            have t1 : ((lb t).toList == s.toList) = false := beq_eq_false_iff_ne.2 (by rw [toList_bl, toList_bl, bl_lb]; exact hts)
            clear hts
            go_wp2_with fail
            rw [HQ2.out]
            exact bodyPost_ret (results_cc rfl _ _ w.heap.size (w.heap.size + 1) 34 40 #[.slice none 0 0, .slice none 0 0, .slice none 0 0] #[.int .i64 5, .int .i64 0] (0, 0) (0, 0) _ _ rfl ((set2_far (by omega) _ _).trans (set3_own HZ6.out _ _ _)) Tryz.underlying34 rfl (by kernel_rfl) rfl (set2_own ((set3_far (by omega) _ _ _).trans HZ63.out) _ _) Tryz.underlying40 rfl (by kernel_rfl)) rfl ⟨_, _, _, rfl, Kd.R_nil _ _ _ _ _, Kd.R_nil _ _ _ _ _, Kd.R_nil _ _ _ _ _, below_set (below_set (below_set (below_set (below_set HB6.out (Nat.le_refl _)) (Nat.le_refl _)) (Nat.le_refl _)) (by omega)) (by omega)⟩
        · have HQ2 : Aside0 (q = (([], [], []), (5, 0))) := ⟨by rw [HQQ.out, if_pos (.inl hpe)]⟩
          have p1 : (pe != 0) = true := bne_iff_ne.2 hpe
          clear hpe
          go_wp2_with fail
          rw [HQ2.out]
          exact bodyPost_ret (results_cc rfl _ _ w.heap.size (w.heap.size + 1) 34 40 #[.slice none 0 0, .slice none 0 0, .slice none 0 0] #[.int .i64 5, .int .i64 0] (0, 0) (0, 0) _ _ rfl ((set2_far (by omega) _ _).trans (set3_own HZ6.out _ _ _)) Tryz.underlying34 rfl (by kernel_rfl) rfl (set2_own ((set3_far (by omega) _ _ _).trans HZ63.out) _ _) Tryz.underlying40 rfl (by kernel_rfl)) rfl ⟨_, _, _, rfl, Kd.R_nil _ _ _ _ _, Kd.R_nil _ _ _ _ _, Kd.R_nil _ _ _ _ _, below_set (below_set (below_set (below_set (below_set HB6.out (Nat.le_refl _)) (Nat.le_refl _)) (Nat.le_refl _)) (by omega)) (by omega)⟩
  · have hqq : parseS (bl s) = (([], [], []), (er, at_)) := by rw [hq, if_pos her]
    have HQ2 := Aside0.mk hqq
    have e0 : (er != 0) = true := bne_iff_ne.2 her
    have hlen : (ls.map lb).length = ls.length := List.length_map _
    clear hq hqq hbound hz2 hz3 hM0 hM hls her
    obtain ⟨q, hqq⟩ : ∃ q, q = parseS (bl s) := ⟨_, rfl⟩
    rw [← hqq] at HQ2 ⊢
    clear hqq
    go_enter Tryz.func15, Tryz.ntmps15
    go_wp2_with fail
    refine HLn.out.mono ?_
    rintro e w1 ⟨vL, rfl, hRL, hb⟩
    obtain ⟨AL, cL, rfl, hcL, hCL⟩ := Kd.R_reads hRL
    have HZ6 := Aside0.mk (blk_below HZ2.out hb)
    have HZ63 := Aside0.mk (blk_below HZ3.out hb)
    have HB6 := Aside0.mk (below_step HB0.out hb)
    obtain ⟨a0, a1, a2⟩ : w1.cell? ⟨w.heap.size, 0, none⟩ = some (.slice none 0 0) ∧ w1.cell? ⟨w.heap.size, 1, none⟩ = some (.slice none 0 0) ∧ w1.cell? ⟨w.heap.size, 2, none⟩ = some (.slice none 0 0) := ⟨blk_cell HZ6.out 0, blk_cell HZ6.out 1, blk_cell HZ6.out 2⟩
    obtain ⟨d0, d1⟩ : w1.cell? ⟨w.heap.size + 1, 0, none⟩ = some (.int .i64 0) ∧ w1.cell? ⟨w.heap.size + 1, 1, none⟩ = some (.int .i64 0) := ⟨blk_cell HZ63.out 0, blk_cell HZ63.out 1⟩
    have f2 := blk_frozen HZ6.out
    have f3 := blk_frozen HZ63.out
    have g2 := blk_lt HZ6.out
    have g3 := blk_lt HZ63.out
    clear hb hRL hCL hcL
    go_wp2_with fail
    have HY := Aside0.mk (World.alloc_heap_new w1 (Obj.cells #[.int .i64 er, .int .i64 at_] 40))
    obtain ⟨y0, y1⟩ : (w1.alloc (Obj.cells #[.int .i64 er, .int .i64 at_] 40)).cell? ⟨w1.heap.size, 0, none⟩ = some (.int .i64 er) ∧ (w1.alloc (Obj.cells #[.int .i64 er, .int .i64 at_] 40)).cell? ⟨w1.heap.size, 1, none⟩ = some (.int .i64 at_) := ⟨blk_cell HY.out 0, blk_cell HY.out 1⟩
    go_region_with (fail)
    all_goals go_wp2_with fail
    all_goals (
      rw [HQ2.out]
      have hb2 : (((((w1.setCell ⟨w.heap.size, 0, none⟩ (.slice none 0 0)).setCell ⟨w.heap.size, 1, none⟩ (.slice none 0 0)).setCell ⟨w.heap.size, 2, none⟩ (.slice none 0 0)).setCell ⟨w.heap.size + 1, 0, none⟩ (.int .i64 er)).setCell ⟨w.heap.size + 1, 1, none⟩ (.int .i64 at_)).heap[w.heap.size]? = some (Obj.cells #[.slice none 0 0, .slice none 0 0, .slice none 0 0] 34 (0, 0)) := (set2_far (by omega) _ _).trans (set3_own HZ6.out _ _ _)
      have hb3 : (((((w1.setCell ⟨w.heap.size, 0, none⟩ (.slice none 0 0)).setCell ⟨w.heap.size, 1, none⟩ (.slice none 0 0)).setCell ⟨w.heap.size, 2, none⟩ (.slice none 0 0)).setCell ⟨w.heap.size + 1, 0, none⟩ (.int .i64 er)).setCell ⟨w.heap.size + 1, 1, none⟩ (.int .i64 at_)).heap[w.heap.size + 1]? = some (Obj.cells #[.int .i64 er, .int .i64 at_] 40 (0, 0)) := set2_own ((set3_far (by omega) _ _ _).trans HZ63.out) _ _
      have hbw : Below w.heap.size w (((((w1.setCell ⟨w.heap.size, 0, none⟩ (.slice none 0 0)).setCell ⟨w.heap.size, 1, none⟩ (.slice none 0 0)).setCell ⟨w.heap.size, 2, none⟩ (.slice none 0 0)).setCell ⟨w.heap.size + 1, 0, none⟩ (.int .i64 er)).setCell ⟨w.heap.size + 1, 1, none⟩ (.int .i64 at_)) := below_set (below_set (below_set (below_set (below_set HB6.out (Nat.le_refl _)) (Nat.le_refl _)) (Nat.le_refl _)) (by omega)) (by omega)
      obtain ⟨wf, hwf⟩ : ∃ W, W = (((((w1.setCell ⟨w.heap.size, 0, none⟩ (.slice none 0 0)).setCell ⟨w.heap.size, 1, none⟩ (.slice none 0 0)).setCell ⟨w.heap.size, 2, none⟩ (.slice none 0 0)).setCell ⟨w.heap.size + 1, 0, none⟩ (.int .i64 er)).setCell ⟨w.heap.size + 1, 1, none⟩ (.int .i64 at_)) := ⟨_, rfl⟩
      rw [← hwf] at hb2 hb3 hbw ⊢
      clear hwf
      have hc2 : ((wf.alloc (Obj.cells #[.int .i64 er, .int .i64 at_] 40)).drew).heap[w.heap.size]? = some (Obj.cells #[.slice none 0 0, .slice none 0 0, .slice none 0 0] 34 (0, 0)) := blk_alloc hb2 _
      have hc3 : ((wf.alloc (Obj.cells #[.int .i64 er, .int .i64 at_] 40)).drew).heap[w.heap.size + 1]? = some (Obj.cells #[.int .i64 er, .int .i64 at_] 40 (0, 0)) := blk_alloc hb3 _
      exact bodyPost_ret (results_cc rfl _ _ w.heap.size (w.heap.size + 1) 34 40 #[.slice none 0 0, .slice none 0 0, .slice none 0 0] #[.int .i64 er, .int .i64 at_] (0, 0) (0, 0) _ _ rfl hc2 Tryz.underlying34 rfl (by kernel_rfl) rfl hc3 Tryz.underlying40 rfl (by kernel_rfl)) rfl ⟨_, _, _, rfl, Kd.R_nil _ _ _ _ _, Kd.R_nil _ _ _ _ _, Kd.R_nil _ _ _ _ _, below_drew1 (below_alloc hbw _)⟩)
end Go.Proofs.YtaokkkolbifdpaaGreatDoor.Hand
end

section
namespace Go.Proofs.YtaokkkolbifdpaaGreatDoor.Q33
open Go.RowKit Go.Proofs.YtaokkkolbifdpaaGreatDoorW.PrintWords Go.Proofs.YtaokkkolbifdpaaGreatDoorW.PrintLast Go.Proofs.YtaokkkolbifdpaaGreatDoorW.PrintMore Go.Proofs.YtaokkkolbifdpaaGreatDoor.Hand
attribute [local go_sem] max2_int min2_int max_two min_two max_three min_three max_four min_four   -- for this text's walks alone
set_option linter.unusedVariables false
set_option linter.unusedSimpArgs false
def errW : Option Int → Value
  | none => .nilIface
  | some c => .iface 0 (.int .i64 c)
theorem errW_none : errW none = .nilIface := rfl
theorem errW_some (c : Int) : errW (some c) = .iface 0 (.int .i64 c) := rfl
end Go.Proofs.YtaokkkolbifdpaaGreatDoor.Q33
end

section
namespace Go.Proofs.YtaokkkolbifdpaaGreatDoor.Q33
open Go.RowKit Go.Proofs.YtaokkkolbifdpaaGreatDoorW.PrintWords Go.Proofs.YtaokkkolbifdpaaGreatDoorW.PrintLast Go.Proofs.YtaokkkolbifdpaaGreatDoorW.PrintMore Go.Proofs.YtaokkkolbifdpaaGreatDoor.Hand
attribute [local go_sem] max2_int min2_int max_two min_two max_three min_three max_four min_four   -- for this text's walks alone
set_option linter.unusedVariables false
set_option linter.unusedSimpArgs false
theorem eqA23 (d : Nat) (w : World) (x0 y0 : ByteArray) (x1 y1 : ByteArray) :
    (Op.equalIn (d + 2) 23 (.agg #[.string x0, .string x1]) (.agg #[.string y0, .string y1])).run Tryz.prog w = .ok (x0.toList == y0.toList && (x1.toList == y1.toList)) w := by
  refine eqA_of Tryz.underlying23 (by kernel_rfl) ?_
  refine eqf_cons (by rfl) (by go_simp; rfl) (by go_simp; rfl) (by go_simp) ?_
  exact eqf_last (by rfl) (by go_simp; rfl) (by go_simp; rfl) (by go_simp)
end Go.Proofs.YtaokkkolbifdpaaGreatDoor.Q33
end

section
namespace Go.Proofs.YtaokkkolbifdpaaGreatDoor.Q33
open Go.RowKit Go.Proofs.YtaokkkolbifdpaaGreatDoorW.PrintWords Go.Proofs.YtaokkkolbifdpaaGreatDoorW.PrintLast Go.Proofs.YtaokkkolbifdpaaGreatDoorW.PrintMore Go.Proofs.YtaokkkolbifdpaaGreatDoor.Hand
attribute [local go_sem] max2_int min2_int max_two min_two max_three min_three max_four min_four   -- for this text's walks alone
set_option linter.unusedVariables false
set_option linter.unusedSimpArgs false
attribute [local go_sem high] eqA23
def secateurref19_SamePairs.l0 : Nat → List (S23) → List (S23) → Int → Option (Bool)
  | 0, _, _, _ => none
  | k + 1, x0, x1, x5 => if x5 < (x0.length : Int) then (if 0 ≤ x5 then (if x5 < (x1.length : Int) then (if (!((((rd_T23 x0 x5).f0).toList) == (((rd_T23 x1 x5).f0).toList)) || (!((((rd_T23 x0 x5).f1).toList) == (((rd_T23 x1 x5).f1).toList)))) = true then (some false) else (secateurref19_SamePairs.l0 k x0 x1 (wrap64 (x5 + 1)))) else (none)) else (none)) else (some true)
def secateurref19_SamePairs.f (k : Nat) (l0 : List (S23)) (l1 : List (S23)) : Option (Bool) := if (l0.length : Int) = (l1.length : Int) then (secateurref19_SamePairs.l0 k l0 l1 0) else (some false)
theorem secateurref19_SamePairs.mono_l : ∀ k, (∀ y0 y1 y2, LeO (secateurref19_SamePairs.l0 k y0 y1 y2) (secateurref19_SamePairs.l0 (k + 1) y0 y1 y2))
  | 0 => fun _ _ _ r h => by simp [secateurref19_SamePairs.l0] at h
  | k + 1 => by
    have ih0 := secateurref19_SamePairs.mono_l k
    · intro y0 y1 y2
      unfold secateurref19_SamePairs.l0
      repeat' first
      | (with_reducible exact ih0 _ _ _)
      | (with_reducible exact LeO.refl _)
      | (with_reducible exact LeO.none _)
      | (with_reducible refine LeO.ite ?_ ?_)
      | (with_reducible refine LeO.bind ?_ (fun _ => ?_))
      | exact ih0 _ _ _
      | exact LeO.none _
      | refine LeO.ite ?_ ?_
      | refine LeO.bind ?_ (fun _ => ?_)
theorem secateurref19_SamePairs.mono : ∀ a0 a1 k, LeO (secateurref19_SamePairs.f k a0 a1) (secateurref19_SamePairs.f (k + 1) a0 a1) := by
  intro a0 a1 k
  have ih0 := secateurref19_SamePairs.mono_l k
  unfold secateurref19_SamePairs.f
  repeat' first
      | (with_reducible exact ih0 _ _ _)
      | (with_reducible exact LeO.refl _)
      | (with_reducible exact LeO.none _)
      | (with_reducible refine LeO.ite ?_ ?_)
      | (with_reducible refine LeO.bind ?_ (fun _ => ?_))
      | exact ih0 _ _ _
      | exact LeO.none _
      | refine LeO.ite ?_ ?_
      | refine LeO.bind ?_ (fun _ => ?_)
set_option maxHeartbeats 8000000 in
set_option maxRecDepth 100000 in
theorem secateurref19_SamePairs.calls (k : Nat) (A0 : Option Addr) (c0 : Nat) (l0 : List (S23)) (A1 : Option Addr) (c1 : Nat) (l1 : List (S23)) (r : Bool) (w : World) (hr0 : Kd.C k23 w A0 l0.length l0) (hc0 : l0.length ≤ c0) (hr1 : Kd.C k23 w A1 l1.length l1) (hc1 : l1.length ≤ c1) (h : secateurref19_SamePairs.f k l0 l1 = some r) :
    Calls Tryz.prog 34 #[.slice A0 l0.length c0, .slice A1 l1.length c1] w fun e w' => e = .returned (.bool r) ∧ Drawn0 w w' := by
  have hu23 := Tryz.underlying23
  have HR0 := Aside0.mk hr0
  have HC0 := Aside0.mk hc0
  clear hr0 hc0
  have HR1 := Aside0.mk hr1
  have HC1 := Aside0.mk hc1
  clear hr1 hc1
  have H : (if (l0.length : Int) = (l1.length : Int) then (secateurref19_SamePairs.l0 k l0 l1 0) else (some false)) = some r := h
  clear h
  by_cases c3 : (l0.length : Int) = (l1.length : Int)
  · rw [if_pos c3] at H
    have c3b0 : ((l0.length : Int) == (l1.length : Int)) = true := beq_iff_eq.mpr c3
    have c3b1 : ((l0.length : Int) != (l1.length : Int)) = false := bne_eq_false_iff_eq.mpr c3
    have c3b2 : (l0.length == l1.length) = true := by first | simpa using c3 | (simp at c3 ⊢; omega)
    clear c3
    have H' := Aside0.mk H
    clear H
    go_enter Tryz.func34, Tryz.ntmps34
    go_wp2
    repeat (go_quiet (fail); try go_wp2)
    go_loopg [5] k (fun kq v5 w' => ∃ (x5_1 : Int), v5 = .int .i64 x5_1 ∧ Aside0 (secateurref19_SamePairs.l0 kq l0 l1 x5_1 = some r) ∧ Aside0 (kq ≤ k) ∧ Drawn0 w w')
    case atStart => exact ⟨(0), (by first | rfl | (simp; done) | (simp [*]; done)), H', ⟨Nat.le_refl _⟩, by repeat (first | exact Drawn0.refl _ | apply Drawn0.step)⟩
    case round =>
      clear H'
      try clear c1
      try clear p2
      try clear c3
      try clear c3b0
      try clear c3b1
      try clear c3b2
      obtain ⟨x5_1, rfl, HA, HK1, ⟨m1, rfl⟩⟩ := hrel
      cases gk with
      | zero => exact absurd HA.out (by simp [secateurref19_SamePairs.l0])
      | succ k1 =>
        have H := HA.out
        clear HA
        simp only [secateurref19_SamePairs.l0] at H
        by_cases c4 : x5_1 < (l0.length : Int)
        · rw [if_pos c4] at H
          have c4b0 : decide (x5_1 < (l0.length : Int)) = true := decide_eq_true c4
          clear c4
          by_cases c5 : 0 ≤ x5_1
          · rw [if_pos c5] at H
            have c5b0 : decide (0 ≤ x5_1) = true := decide_eq_true c5
            clear c5
            by_cases c6 : x5_1 < (l1.length : Int)
            · rw [if_pos c6] at H
              have c6b0 : decide (x5_1 < (l1.length : Int)) = true := decide_eq_true c6
              clear c6
              by_cases c7 : (!((((rd_T23 l0 x5_1).f0).toList) == (((rd_T23 l1 x5_1).f0).toList)) || (!((((rd_T23 l0 x5_1).f1).toList) == (((rd_T23 l1 x5_1).f1).toList)))) = true
              · rw [if_pos c7] at H
                have c7b0 : (!((((rd_T23 l0 x5_1).f0).toList) == (((rd_T23 l1 x5_1).f0).toList)) || (!((((rd_T23 l0 x5_1).f1).toList) == (((rd_T23 l1 x5_1).f1).toList)))) = true := c7
                clear c7
                obtain rfl := Option.some.inj H
                have p101 : 0 ≤ (x5_1 : Int) := of_decide_eq_true (by first | (with_reducible assumption) | assumption)
                have q101 : x5_1 < (l0.length : Int) := of_decide_eq_true (by first | (with_reducible assumption) | assumption)
                obtain ⟨ad101, e101, hx101_0, hx101_1⟩ := at_T23 HR0.out x5_1 p101 q101
                cases e101
                replace p101 := eq_true p101
                replace q101 := eq_true q101
                have p102 : 0 ≤ (x5_1 : Int) := of_decide_eq_true (by first | (with_reducible assumption) | assumption)
                have q102 : x5_1 < (l1.length : Int) := of_decide_eq_true (by first | (with_reducible assumption) | assumption)
                obtain ⟨ad102, e102, hx102_0, hx102_1⟩ := at_T23 HR1.out x5_1 p102 q102
                cases e102
                replace p102 := eq_true p102
                replace q102 := eq_true q102
                go_wp2
                repeat (go_quiet (fail); try go_wp2)
                go_ret
                exact ⟨by first | rfl | (simp; done) | (simp [*]; done), by repeat (first | exact Drawn0.refl _ | apply Drawn0.step)⟩
              · rw [if_neg c7] at H
                have c7b0 : (!((((rd_T23 l0 x5_1).f0).toList) == (((rd_T23 l1 x5_1).f0).toList)) || (!((((rd_T23 l0 x5_1).f1).toList) == (((rd_T23 l1 x5_1).f1).toList)))) = false := by simpa using c7
                clear c7
                have H' := Aside0.mk H
                clear H
                have p101 : 0 ≤ (x5_1 : Int) := of_decide_eq_true (by first | (with_reducible assumption) | assumption)
                have q101 : x5_1 < (l0.length : Int) := of_decide_eq_true (by first | (with_reducible assumption) | assumption)
                obtain ⟨ad101, e101, hx101_0, hx101_1⟩ := at_T23 HR0.out x5_1 p101 q101
                cases e101
                replace p101 := eq_true p101
                replace q101 := eq_true q101
                have p102 : 0 ≤ (x5_1 : Int) := of_decide_eq_true (by first | (with_reducible assumption) | assumption)
                have q102 : x5_1 < (l1.length : Int) := of_decide_eq_true (by first | (with_reducible assumption) | assumption)
                obtain ⟨ad102, e102, hx102_0, hx102_1⟩ := at_T23 HR1.out x5_1 p102 q102
                cases e102
                replace p102 := eq_true p102
                replace q102 := eq_true q102
                go_wp2
                repeat (go_quiet (fail); try go_wp2)
                go_roundg k1
                case measure => have := HK1.out; omega
                case rel => exact ⟨(wrap64 (x5_1 + 1)), (by first | rfl | (simp; done) | (simp [*]; done)), H', ⟨by have := HK1.out; omega⟩, by repeat (first | exact Drawn0.refl _ | apply Drawn0.step)⟩
            · rw [if_neg c6] at H
              exact absurd H (by simp)
          · rw [if_neg c5] at H
            exact absurd H (by simp)
        · rw [if_neg c4] at H
          have c4b0 : decide (x5_1 < (l0.length : Int)) = false := decide_eq_false c4
          clear c4
          obtain rfl := Option.some.inj H
          go_wp2
          repeat (go_quiet (fail); try go_wp2)
          go_ret
          exact ⟨by first | rfl | (simp; done) | (simp [*]; done), by repeat (first | exact Drawn0.refl _ | apply Drawn0.step)⟩
  · rw [if_neg c3] at H
    have c3b0 : ((l0.length : Int) == (l1.length : Int)) = false := beq_eq_false_iff_ne.mpr c3
    have c3b1 : ((l0.length : Int) != (l1.length : Int)) = true := bne_iff_ne.mpr c3
    have c3b2 : (l0.length == l1.length) = false := by first | simpa using c3 | (simp at c3 ⊢; omega)
    obtain rfl := Option.some.inj H
    go_enter Tryz.func34, Tryz.ntmps34
    go_wp2
    repeat (go_quiet (fail); try go_wp2)
    go_ret
    exact ⟨by first | rfl | (simp; done) | (simp [*]; done), by repeat (first | exact Drawn0.refl _ | apply Drawn0.step)⟩
def secateurref29_Same.f (k : Nat) (l0_0 : List (S23)) (l0_1 : List (S23)) (l0_2 : List (S23)) (l1_0 : List (S23)) (l1_1 : List (S23)) (l1_2 : List (S23)) : Option (Bool) := (secateurref19_SamePairs.f k l0_0 l1_0).bind fun t105 => (if t105 = true then ((secateurref19_SamePairs.f k l0_1 l1_1).bind fun t106 => (if t106 = true then ((secateurref19_SamePairs.f k l0_2 l1_2).bind fun t107 => (some t107)) else (some false))) else (some false))
theorem secateurref29_Same.mono : ∀ a0 a1 a2 a3 a4 a5 k, LeO (secateurref29_Same.f k a0 a1 a2 a3 a4 a5) (secateurref29_Same.f (k + 1) a0 a1 a2 a3 a4 a5) := by
  intro a0 a1 a2 a3 a4 a5 k
  unfold secateurref29_Same.f
  repeat' first
      | (with_reducible exact secateurref19_SamePairs.mono _ _ _)
      | (with_reducible exact LeO.refl _)
      | (with_reducible exact LeO.none _)
      | (with_reducible refine LeO.ite ?_ ?_)
      | (with_reducible refine LeO.bind ?_ (fun _ => ?_))
      | exact secateurref19_SamePairs.mono _ _ _
      | exact LeO.none _
      | refine LeO.ite ?_ ?_
      | refine LeO.bind ?_ (fun _ => ?_)
set_option maxHeartbeats 8000000 in
set_option maxRecDepth 100000 in
theorem secateurref29_Same.calls (k : Nat) (A0_0 : Option Addr) (c0_0 : Nat) (l0_0 : List (S23)) (A0_1 : Option Addr) (c0_1 : Nat) (l0_1 : List (S23)) (A0_2 : Option Addr) (c0_2 : Nat) (l0_2 : List (S23)) (A1_0 : Option Addr) (c1_0 : Nat) (l1_0 : List (S23)) (A1_1 : Option Addr) (c1_1 : Nat) (l1_1 : List (S23)) (A1_2 : Option Addr) (c1_2 : Nat) (l1_2 : List (S23)) (r : Bool) (w : World) (hr0_0 : Kd.C k23 w A0_0 l0_0.length l0_0) (hc0_0 : l0_0.length ≤ c0_0) (hr0_1 : Kd.C k23 w A0_1 l0_1.length l0_1) (hc0_1 : l0_1.length ≤ c0_1) (hr0_2 : Kd.C k23 w A0_2 l0_2.length l0_2) (hc0_2 : l0_2.length ≤ c0_2) (hr1_0 : Kd.C k23 w A1_0 l1_0.length l1_0) (hc1_0 : l1_0.length ≤ c1_0) (hr1_1 : Kd.C k23 w A1_1 l1_1.length l1_1) (hc1_1 : l1_1.length ≤ c1_1) (hr1_2 : Kd.C k23 w A1_2 l1_2.length l1_2) (hc1_2 : l1_2.length ≤ c1_2) (h : secateurref29_Same.f k l0_0 l0_1 l0_2 l1_0 l1_1 l1_2 = some r) :
    Calls Tryz.prog 17 #[.agg #[.slice A0_0 l0_0.length c0_0, .slice A0_1 l0_1.length c0_1, .slice A0_2 l0_2.length c0_2], .agg #[.slice A1_0 l1_0.length c1_0, .slice A1_1 l1_1.length c1_1, .slice A1_2 l1_2.length c1_2]] w fun e w' => e = .returned (.bool r) ∧ Below w.heap.size w w' := by
  have hu34 := Tryz.underlying34
  have HR0_0 := Aside0.mk hr0_0
  have HC0_0 := Aside0.mk hc0_0
  clear hr0_0 hc0_0
  have HR0_1 := Aside0.mk hr0_1
  have HC0_1 := Aside0.mk hc0_1
  clear hr0_1 hc0_1
  have HR0_2 := Aside0.mk hr0_2
  have HC0_2 := Aside0.mk hc0_2
  clear hr0_2 hc0_2
  have HR1_0 := Aside0.mk hr1_0
  have HC1_0 := Aside0.mk hc1_0
  clear hr1_0 hc1_0
  have HR1_1 := Aside0.mk hr1_1
  have HC1_1 := Aside0.mk hc1_1
  clear hr1_1 hc1_1
  have HR1_2 := Aside0.mk hr1_2
  have HC1_2 := Aside0.mk hc1_2
  clear hr1_2 hc1_2
  have HB := Aside0.mk (Below.refl w.heap.size w)
  have H : ((secateurref19_SamePairs.f k l0_0 l1_0).bind fun t105 => (if t105 = true then ((secateurref19_SamePairs.f k l0_1 l1_1).bind fun t106 => (if t106 = true then ((secateurref19_SamePairs.f k l0_2 l1_2).bind fun t107 => (some t107)) else (some false))) else (some false))) = some r := h
  clear h
  replace H := Option.bind_eq_some_iff.mp H
  obtain ⟨t105, A30, H⟩ := H
  replace H : (if t105 = true then ((secateurref19_SamePairs.f k l0_1 l1_1).bind fun t106 => (if t106 = true then ((secateurref19_SamePairs.f k l0_2 l1_2).bind fun t107 => (some t107)) else (some false))) else (some false)) = some r := H
  have A3 := Aside0.mk A30
  clear A30
  by_cases c4 : t105 = true
  · subst c4
    have H1 : ((secateurref19_SamePairs.f k l0_1 l1_1).bind fun t106 => (if t106 = true then ((secateurref19_SamePairs.f k l0_2 l1_2).bind fun t107 => (some t107)) else (some false))) = some r := by rw [if_pos rfl] at H; exact H
    clear H
    have H := H1
    clear H1
    replace H := Option.bind_eq_some_iff.mp H
    obtain ⟨t106, A50, H⟩ := H
    replace H : (if t106 = true then ((secateurref19_SamePairs.f k l0_2 l1_2).bind fun t107 => (some t107)) else (some false)) = some r := H
    have A5 := Aside0.mk A50
    clear A50
    by_cases c6 : t106 = true
    · subst c6
      have H1 : ((secateurref19_SamePairs.f k l0_2 l1_2).bind fun t107 => (some t107)) = some r := by rw [if_pos rfl] at H; exact H
      clear H
      have H := H1
      clear H1
      replace H := Option.bind_eq_some_iff.mp H
      obtain ⟨t107, A70, H⟩ := H
      replace H : (some t107) = some r := H
      have A7 := Aside0.mk A70
      clear A70
      obtain rfl := Option.some.inj H
      go_enter Tryz.func17, Tryz.ntmps17
      go_wp2_with (first | ((with_reducible refine gate_dst (N := 2) rfl ?_); refine box_event ?hg (N := 2) ?hd (cs := #[.slice A0_0 l0_0.length c0_0, .slice A0_1 l0_1.length c0_1, .slice A0_2 l0_2.length c0_2]) (t := 34) ?hr ?_; (case hd => rfl); (case hg => rfl); (case hr => first | (go_simp; done) | (go_simp; rfl)); intro gb103 hg w8 hbox hb; have n0_ := Aside0.mk (below_step (by repeat (first | (with_reducible first | exact HB.out | apply below_alloc | apply pw_below_drewN | apply below_drew1) | exact HB.out)) hb); have n1_ := Aside0.mk (hbox); have n2_ := Aside0.mk ((by rw [hg]; exact (below_size (by repeat (first | (with_reducible first | exact HB.out | apply below_alloc | apply pw_below_drewN | apply below_drew1) | exact HB.out))) : w.heap.size ≤ gb103)); have n3_ := Aside0.mk ((by rw [hg]; exact (below_size (by repeat (first | (with_reducible first | exact HB.out | apply below_alloc | apply pw_below_drewN | apply below_drew1) | exact HB.out))) : w.heap.size ≤ gb103)); clear HB; have HB := n0_; have BK103 := n1_; have GW103 := n2_; have GE103 := n3_; clear n0_ n1_ n2_ n3_; clear hb hbox hg) | ((with_reducible refine gate_dst (N := 3) rfl ?_); refine box_event ?hg (N := 3) ?hd (cs := #[.slice A1_0 l1_0.length c1_0, .slice A1_1 l1_1.length c1_1, .slice A1_2 l1_2.length c1_2]) (t := 34) ?hr ?_; (case hd => rfl); (case hg => rfl); (case hr => first | (go_simp; done) | (go_simp; rfl)); intro gb104 hg w9 hbox hb; have n0_ := Aside0.mk (blk_below (g := gb103) (o := .cells #[.slice A0_0 l0_0.length c0_0, .slice A0_1 l0_1.length c0_1, .slice A0_2 l0_2.length c0_2] 34 (0, 0)) (by (with_reducible repeat (first | refine blk_drewN ?_ _ | refine blk_drew ?_ | refine blk_alloc ?_ _)); exact BK103.out) hb); have n1_ := Aside0.mk (below_step (by repeat (first | (with_reducible first | exact HB.out | apply below_alloc | apply pw_below_drewN | apply below_drew1 | refine below_set ?_ GE103.out) | exact HB.out)) hb); have n2_ := Aside0.mk (hbox); have n3_ := Aside0.mk ((by rw [hg]; exact (below_size (by repeat (first | (with_reducible first | exact HB.out | apply below_alloc | apply pw_below_drewN | apply below_drew1 | refine below_set ?_ GE103.out) | exact HB.out))) : w.heap.size ≤ gb104)); have n4_ := Aside0.mk ((by rw [hg]; exact (below_size (by repeat (first | (with_reducible first | exact HB.out | apply below_alloc | apply pw_below_drewN | apply below_drew1 | refine below_set ?_ GE103.out) | exact HB.out))) : w.heap.size ≤ gb104)); have n5_ := Aside0.mk ((by rw [hg]; exact Nat.ne_of_lt (blk_lt (g := gb103) (o := .cells #[.slice A0_0 l0_0.length c0_0, .slice A0_1 l0_1.length c0_1, .slice A0_2 l0_2.length c0_2] 34 (0, 0)) (by (with_reducible repeat (first | refine blk_drewN ?_ _ | refine blk_drew ?_ | refine blk_alloc ?_ _)); exact BK103.out)) : gb103 ≠ gb104)); have n6_ := Aside0.mk ((by rw [hg]; exact Nat.ne_of_gt (blk_lt (g := gb103) (o := .cells #[.slice A0_0 l0_0.length c0_0, .slice A0_1 l0_1.length c0_1, .slice A0_2 l0_2.length c0_2] 34 (0, 0)) (by (with_reducible repeat (first | refine blk_drewN ?_ _ | refine blk_drew ?_ | refine blk_alloc ?_ _)); exact BK103.out)) : gb104 ≠ gb103)); clear BK103; clear HB; have BK103 := n0_; have HB := n1_; have BK104 := n2_; have GW104 := n3_; have GE104 := n4_; have NB103_104 := n5_; have NB104_103 := n6_; clear n0_ n1_ n2_ n3_ n4_ n5_ n6_; clear hb hbox hg; have hnb10 := NB103_104.out; have hnc10 := NB104_103.out; have hcz11_0 : w9.cell? ⟨gb103, 0, none⟩ = some (.slice A0_0 l0_0.length c0_0) := (blk_cell BK103.out 0).trans rfl; have hcz11_1 : w9.cell? ⟨gb103, 1, none⟩ = some (.slice A0_1 l0_1.length c0_1) := (blk_cell BK103.out 1).trans rfl; have hcz11_2 : w9.cell? ⟨gb103, 2, none⟩ = some (.slice A0_2 l0_2.length c0_2) := (blk_cell BK103.out 2).trans rfl; have hfz11_0 := blk_frozen BK103.out 0; have hfz11_1 := blk_frozen BK103.out 1; have hfz11_2 := blk_frozen BK103.out 2; have hcz12_0 : w9.cell? ⟨gb104, 0, none⟩ = some (.slice A1_0 l1_0.length c1_0) := (blk_cell BK104.out 0).trans rfl; have hcz12_1 : w9.cell? ⟨gb104, 1, none⟩ = some (.slice A1_1 l1_1.length c1_1) := (blk_cell BK104.out 1).trans rfl; have hcz12_2 : w9.cell? ⟨gb104, 2, none⟩ = some (.slice A1_2 l1_2.length c1_2) := (blk_cell BK104.out 2).trans rfl; have hfz12_0 := blk_frozen BK104.out 0; have hfz12_1 := blk_frozen BK104.out 1; have hfz12_2 := blk_frozen BK104.out 2) | ((with_reducible refine gate_callee (f := 34) rfl ?_); refine goesL_ (some 9) rfl rfl Tryz.func34 (by kernel_rfl) rfl #[.slice A0_0 l0_0.length c0_0, .slice A1_0 l1_0.length c1_0] rfl (by (try simp only [List.map_toArray, List.map_cons, List.map_nil]); first | done | rfl | (simp only [List.length_drop, List.length_take]; rfl)) ?_; (with_reducible refine (secateurref19_SamePairs.calls k _ _ l0_0 _ _ l1_0 true _ ?side1 ?side2 ?side3 ?side4 A3.out).mono ?_); (case side1 => repeat (first | exact (Kd.C_below HR0_0.out HB.out) | (with_reducible refine Kd.C_alloc ?_ _) | (with_reducible refine Kd.C_drewN ?_ _) | (with_reducible refine Kd.C_drew ?_))); (case side2 => exact HC0_0.out); (case side3 => repeat (first | exact (Kd.C_below HR1_0.out HB.out) | (with_reducible refine Kd.C_alloc ?_ _) | (with_reducible refine Kd.C_drewN ?_ _) | (with_reducible refine Kd.C_drew ?_))); (case side4 => exact HC1_0.out); rintro e w' ⟨rfl, ⟨nd, rfl⟩⟩; refine ⟨_, rfl, ?_⟩) | (go_at_call 34; (with_reducible refine (secateurref19_SamePairs.calls k _ _ l0_1 _ _ l1_1 true _ ?side1 ?side2 ?side3 ?side4 A5.out).mono ?_); (case side1 => repeat (first | exact (Kd.C_below HR0_1.out (by repeat (first | (with_reducible first | exact HB.out | apply below_alloc | apply pw_below_drewN | apply below_drew1 | refine below_set ?_ GE103.out | refine below_set ?_ GE104.out) | exact HB.out))) | (with_reducible refine Kd.C_alloc ?_ _) | (with_reducible refine Kd.C_drewN ?_ _) | (with_reducible refine Kd.C_drew ?_))); (case side2 => exact HC0_1.out); (case side3 => repeat (first | exact (Kd.C_below HR1_1.out (by repeat (first | (with_reducible first | exact HB.out | apply below_alloc | apply pw_below_drewN | apply below_drew1 | refine below_set ?_ GE103.out | refine below_set ?_ GE104.out) | exact HB.out))) | (with_reducible refine Kd.C_alloc ?_ _) | (with_reducible refine Kd.C_drewN ?_ _) | (with_reducible refine Kd.C_drew ?_))); (case side4 => exact HC1_1.out); rintro e w' ⟨rfl, ⟨nd, rfl⟩⟩) | (go_at_call 34; (with_reducible refine (secateurref19_SamePairs.calls k _ _ l0_2 _ _ l1_2 t107 _ ?side1 ?side2 ?side3 ?side4 A7.out).mono ?_); (case side1 => repeat (first | exact (Kd.C_below HR0_2.out (by repeat (first | (with_reducible first | exact HB.out | apply below_alloc | apply pw_below_drewN | apply below_drew1 | refine below_set ?_ GE103.out | refine below_set ?_ GE104.out) | exact HB.out))) | (with_reducible refine Kd.C_alloc ?_ _) | (with_reducible refine Kd.C_drewN ?_ _) | (with_reducible refine Kd.C_drew ?_))); (case side2 => exact HC0_2.out); (case side3 => repeat (first | exact (Kd.C_below HR1_2.out (by repeat (first | (with_reducible first | exact HB.out | apply below_alloc | apply pw_below_drewN | apply below_drew1 | refine below_set ?_ GE103.out | refine below_set ?_ GE104.out) | exact HB.out))) | (with_reducible refine Kd.C_alloc ?_ _) | (with_reducible refine Kd.C_drewN ?_ _) | (with_reducible refine Kd.C_drew ?_))); (case side4 => exact HC1_2.out); rintro e w' ⟨rfl, ⟨nd, rfl⟩⟩))
      go_ret
      exact ⟨by first | rfl | (simp [errW_none, errW_some] <;> rfl) | (simp [*, errW_none, errW_some] <;> rfl), by repeat (first | (with_reducible first | exact HB.out | apply below_alloc | apply pw_below_drewN | apply below_drew1 | refine below_set ?_ GE103.out | refine below_set ?_ GE104.out) | exact HB.out)⟩
    · replace c6 := Bool.eq_false_iff.mpr c6
      subst c6
      have H1 : (some false) = some r := by rw [if_neg (show ¬ (false = true) by decide)] at H; exact H
      clear H
      have H := H1
      clear H1
      obtain rfl := Option.some.inj H
      go_enter Tryz.func17, Tryz.ntmps17
      go_wp2_with (first | ((with_reducible refine gate_dst (N := 2) rfl ?_); refine box_event ?hg (N := 2) ?hd (cs := #[.slice A0_0 l0_0.length c0_0, .slice A0_1 l0_1.length c0_1, .slice A0_2 l0_2.length c0_2]) (t := 34) ?hr ?_; (case hd => rfl); (case hg => rfl); (case hr => first | (go_simp; done) | (go_simp; rfl)); intro gb103 hg w13 hbox hb; have n0_ := Aside0.mk (below_step (by repeat (first | (with_reducible first | exact HB.out | apply below_alloc | apply pw_below_drewN | apply below_drew1) | exact HB.out)) hb); have n1_ := Aside0.mk (hbox); have n2_ := Aside0.mk ((by rw [hg]; exact (below_size (by repeat (first | (with_reducible first | exact HB.out | apply below_alloc | apply pw_below_drewN | apply below_drew1) | exact HB.out))) : w.heap.size ≤ gb103)); have n3_ := Aside0.mk ((by rw [hg]; exact (below_size (by repeat (first | (with_reducible first | exact HB.out | apply below_alloc | apply pw_below_drewN | apply below_drew1) | exact HB.out))) : w.heap.size ≤ gb103)); clear HB; have HB := n0_; have BK103 := n1_; have GW103 := n2_; have GE103 := n3_; clear n0_ n1_ n2_ n3_; clear hb hbox hg) | ((with_reducible refine gate_dst (N := 3) rfl ?_); refine box_event ?hg (N := 3) ?hd (cs := #[.slice A1_0 l1_0.length c1_0, .slice A1_1 l1_1.length c1_1, .slice A1_2 l1_2.length c1_2]) (t := 34) ?hr ?_; (case hd => rfl); (case hg => rfl); (case hr => first | (go_simp; done) | (go_simp; rfl)); intro gb104 hg w14 hbox hb; have n0_ := Aside0.mk (blk_below (g := gb103) (o := .cells #[.slice A0_0 l0_0.length c0_0, .slice A0_1 l0_1.length c0_1, .slice A0_2 l0_2.length c0_2] 34 (0, 0)) (by (with_reducible repeat (first | refine blk_drewN ?_ _ | refine blk_drew ?_ | refine blk_alloc ?_ _)); exact BK103.out) hb); have n1_ := Aside0.mk (below_step (by repeat (first | (with_reducible first | exact HB.out | apply below_alloc | apply pw_below_drewN | apply below_drew1 | refine below_set ?_ GE103.out) | exact HB.out)) hb); have n2_ := Aside0.mk (hbox); have n3_ := Aside0.mk ((by rw [hg]; exact (below_size (by repeat (first | (with_reducible first | exact HB.out | apply below_alloc | apply pw_below_drewN | apply below_drew1 | refine below_set ?_ GE103.out) | exact HB.out))) : w.heap.size ≤ gb104)); have n4_ := Aside0.mk ((by rw [hg]; exact (below_size (by repeat (first | (with_reducible first | exact HB.out | apply below_alloc | apply pw_below_drewN | apply below_drew1 | refine below_set ?_ GE103.out) | exact HB.out))) : w.heap.size ≤ gb104)); have n5_ := Aside0.mk ((by rw [hg]; exact Nat.ne_of_lt (blk_lt (g := gb103) (o := .cells #[.slice A0_0 l0_0.length c0_0, .slice A0_1 l0_1.length c0_1, .slice A0_2 l0_2.length c0_2] 34 (0, 0)) (by (with_reducible repeat (first | refine blk_drewN ?_ _ | refine blk_drew ?_ | refine blk_alloc ?_ _)); exact BK103.out)) : gb103 ≠ gb104)); have n6_ := Aside0.mk ((by rw [hg]; exact Nat.ne_of_gt (blk_lt (g := gb103) (o := .cells #[.slice A0_0 l0_0.length c0_0, .slice A0_1 l0_1.length c0_1, .slice A0_2 l0_2.length c0_2] 34 (0, 0)) (by (with_reducible repeat (first | refine blk_drewN ?_ _ | refine blk_drew ?_ | refine blk_alloc ?_ _)); exact BK103.out)) : gb104 ≠ gb103)); clear BK103; clear HB; have BK103 := n0_; have HB := n1_; have BK104 := n2_; have GW104 := n3_; have GE104 := n4_; have NB103_104 := n5_; have NB104_103 := n6_; clear n0_ n1_ n2_ n3_ n4_ n5_ n6_; clear hb hbox hg; have hnb15 := NB103_104.out; have hnc15 := NB104_103.out; have hcz16_0 : w14.cell? ⟨gb103, 0, none⟩ = some (.slice A0_0 l0_0.length c0_0) := (blk_cell BK103.out 0).trans rfl; have hcz16_1 : w14.cell? ⟨gb103, 1, none⟩ = some (.slice A0_1 l0_1.length c0_1) := (blk_cell BK103.out 1).trans rfl; have hcz16_2 : w14.cell? ⟨gb103, 2, none⟩ = some (.slice A0_2 l0_2.length c0_2) := (blk_cell BK103.out 2).trans rfl; have hfz16_0 := blk_frozen BK103.out 0; have hfz16_1 := blk_frozen BK103.out 1; have hfz16_2 := blk_frozen BK103.out 2; have hcz17_0 : w14.cell? ⟨gb104, 0, none⟩ = some (.slice A1_0 l1_0.length c1_0) := (blk_cell BK104.out 0).trans rfl; have hcz17_1 : w14.cell? ⟨gb104, 1, none⟩ = some (.slice A1_1 l1_1.length c1_1) := (blk_cell BK104.out 1).trans rfl; have hcz17_2 : w14.cell? ⟨gb104, 2, none⟩ = some (.slice A1_2 l1_2.length c1_2) := (blk_cell BK104.out 2).trans rfl; have hfz17_0 := blk_frozen BK104.out 0; have hfz17_1 := blk_frozen BK104.out 1; have hfz17_2 := blk_frozen BK104.out 2) | ((with_reducible refine gate_callee (f := 34) rfl ?_); refine goesL_ (some 9) rfl rfl Tryz.func34 (by kernel_rfl) rfl #[.slice A0_0 l0_0.length c0_0, .slice A1_0 l1_0.length c1_0] rfl (by (try simp only [List.map_toArray, List.map_cons, List.map_nil]); first | done | rfl | (simp only [List.length_drop, List.length_take]; rfl)) ?_; (with_reducible refine (secateurref19_SamePairs.calls k _ _ l0_0 _ _ l1_0 true _ ?side1 ?side2 ?side3 ?side4 A3.out).mono ?_); (case side1 => repeat (first | exact (Kd.C_below HR0_0.out HB.out) | (with_reducible refine Kd.C_alloc ?_ _) | (with_reducible refine Kd.C_drewN ?_ _) | (with_reducible refine Kd.C_drew ?_))); (case side2 => exact HC0_0.out); (case side3 => repeat (first | exact (Kd.C_below HR1_0.out HB.out) | (with_reducible refine Kd.C_alloc ?_ _) | (with_reducible refine Kd.C_drewN ?_ _) | (with_reducible refine Kd.C_drew ?_))); (case side4 => exact HC1_0.out); rintro e w' ⟨rfl, ⟨nd, rfl⟩⟩; refine ⟨_, rfl, ?_⟩) | (go_at_call 34; (with_reducible refine (secateurref19_SamePairs.calls k _ _ l0_1 _ _ l1_1 false _ ?side1 ?side2 ?side3 ?side4 A5.out).mono ?_); (case side1 => repeat (first | exact (Kd.C_below HR0_1.out (by repeat (first | (with_reducible first | exact HB.out | apply below_alloc | apply pw_below_drewN | apply below_drew1 | refine below_set ?_ GE103.out | refine below_set ?_ GE104.out) | exact HB.out))) | (with_reducible refine Kd.C_alloc ?_ _) | (with_reducible refine Kd.C_drewN ?_ _) | (with_reducible refine Kd.C_drew ?_))); (case side2 => exact HC0_1.out); (case side3 => repeat (first | exact (Kd.C_below HR1_1.out (by repeat (first | (with_reducible first | exact HB.out | apply below_alloc | apply pw_below_drewN | apply below_drew1 | refine below_set ?_ GE103.out | refine below_set ?_ GE104.out) | exact HB.out))) | (with_reducible refine Kd.C_alloc ?_ _) | (with_reducible refine Kd.C_drewN ?_ _) | (with_reducible refine Kd.C_drew ?_))); (case side4 => exact HC1_1.out); rintro e w' ⟨rfl, ⟨nd, rfl⟩⟩))
      go_ret
      exact ⟨by first | rfl | (simp [errW_none, errW_some] <;> rfl) | (simp [*, errW_none, errW_some] <;> rfl), by repeat (first | (with_reducible first | exact HB.out | apply below_alloc | apply pw_below_drewN | apply below_drew1 | refine below_set ?_ GE103.out | refine below_set ?_ GE104.out) | exact HB.out)⟩
  · replace c4 := Bool.eq_false_iff.mpr c4
    subst c4
    have H1 : (some false) = some r := by rw [if_neg (show ¬ (false = true) by decide)] at H; exact H
    clear H
    have H := H1
    clear H1
    obtain rfl := Option.some.inj H
    go_enter Tryz.func17, Tryz.ntmps17
    go_wp2_with (first | ((with_reducible refine gate_dst (N := 2) rfl ?_); refine box_event ?hg (N := 2) ?hd (cs := #[.slice A0_0 l0_0.length c0_0, .slice A0_1 l0_1.length c0_1, .slice A0_2 l0_2.length c0_2]) (t := 34) ?hr ?_; (case hd => rfl); (case hg => rfl); (case hr => first | (go_simp; done) | (go_simp; rfl)); intro gb103 hg w18 hbox hb; have n0_ := Aside0.mk (below_step (by repeat (first | (with_reducible first | exact HB.out | apply below_alloc | apply pw_below_drewN | apply below_drew1) | exact HB.out)) hb); have n1_ := Aside0.mk (hbox); have n2_ := Aside0.mk ((by rw [hg]; exact (below_size (by repeat (first | (with_reducible first | exact HB.out | apply below_alloc | apply pw_below_drewN | apply below_drew1) | exact HB.out))) : w.heap.size ≤ gb103)); have n3_ := Aside0.mk ((by rw [hg]; exact (below_size (by repeat (first | (with_reducible first | exact HB.out | apply below_alloc | apply pw_below_drewN | apply below_drew1) | exact HB.out))) : w.heap.size ≤ gb103)); clear HB; have HB := n0_; have BK103 := n1_; have GW103 := n2_; have GE103 := n3_; clear n0_ n1_ n2_ n3_; clear hb hbox hg) | ((with_reducible refine gate_dst (N := 3) rfl ?_); refine box_event ?hg (N := 3) ?hd (cs := #[.slice A1_0 l1_0.length c1_0, .slice A1_1 l1_1.length c1_1, .slice A1_2 l1_2.length c1_2]) (t := 34) ?hr ?_; (case hd => rfl); (case hg => rfl); (case hr => first | (go_simp; done) | (go_simp; rfl)); intro gb104 hg w19 hbox hb; have n0_ := Aside0.mk (blk_below (g := gb103) (o := .cells #[.slice A0_0 l0_0.length c0_0, .slice A0_1 l0_1.length c0_1, .slice A0_2 l0_2.length c0_2] 34 (0, 0)) (by (with_reducible repeat (first | refine blk_drewN ?_ _ | refine blk_drew ?_ | refine blk_alloc ?_ _)); exact BK103.out) hb); have n1_ := Aside0.mk (below_step (by repeat (first | (with_reducible first | exact HB.out | apply below_alloc | apply pw_below_drewN | apply below_drew1 | refine below_set ?_ GE103.out) | exact HB.out)) hb); have n2_ := Aside0.mk (hbox); have n3_ := Aside0.mk ((by rw [hg]; exact (below_size (by repeat (first | (with_reducible first | exact HB.out | apply below_alloc | apply pw_below_drewN | apply below_drew1 | refine below_set ?_ GE103.out) | exact HB.out))) : w.heap.size ≤ gb104)); have n4_ := Aside0.mk ((by rw [hg]; exact (below_size (by repeat (first | (with_reducible first | exact HB.out | apply below_alloc | apply pw_below_drewN | apply below_drew1 | refine below_set ?_ GE103.out) | exact HB.out))) : w.heap.size ≤ gb104)); have n5_ := Aside0.mk ((by rw [hg]; exact Nat.ne_of_lt (blk_lt (g := gb103) (o := .cells #[.slice A0_0 l0_0.length c0_0, .slice A0_1 l0_1.length c0_1, .slice A0_2 l0_2.length c0_2] 34 (0, 0)) (by (with_reducible repeat (first | refine blk_drewN ?_ _ | refine blk_drew ?_ | refine blk_alloc ?_ _)); exact BK103.out)) : gb103 ≠ gb104)); have n6_ := Aside0.mk ((by rw [hg]; exact Nat.ne_of_gt (blk_lt (g := gb103) (o := .cells #[.slice A0_0 l0_0.length c0_0, .slice A0_1 l0_1.length c0_1, .slice A0_2 l0_2.length c0_2] 34 (0, 0)) (by (with_reducible repeat (first | refine blk_drewN ?_ _ | refine blk_drew ?_ | refine blk_alloc ?_ _)); exact BK103.out)) : gb104 ≠ gb103)); clear BK103; clear HB; have BK103 := n0_; have HB := n1_; have BK104 := n2_; have GW104 := n3_; have GE104 := n4_; have NB103_104 := n5_; have NB104_103 := n6_; clear n0_ n1_ n2_ n3_ n4_ n5_ n6_; clear hb hbox hg; have hnb20 := NB103_104.out; have hnc20 := NB104_103.out; have hcz21_0 : w19.cell? ⟨gb103, 0, none⟩ = some (.slice A0_0 l0_0.length c0_0) := (blk_cell BK103.out 0).trans rfl; have hcz21_1 : w19.cell? ⟨gb103, 1, none⟩ = some (.slice A0_1 l0_1.length c0_1) := (blk_cell BK103.out 1).trans rfl; have hcz21_2 : w19.cell? ⟨gb103, 2, none⟩ = some (.slice A0_2 l0_2.length c0_2) := (blk_cell BK103.out 2).trans rfl; have hfz21_0 := blk_frozen BK103.out 0; have hfz21_1 := blk_frozen BK103.out 1; have hfz21_2 := blk_frozen BK103.out 2; have hcz22_0 : w19.cell? ⟨gb104, 0, none⟩ = some (.slice A1_0 l1_0.length c1_0) := (blk_cell BK104.out 0).trans rfl; have hcz22_1 : w19.cell? ⟨gb104, 1, none⟩ = some (.slice A1_1 l1_1.length c1_1) := (blk_cell BK104.out 1).trans rfl; have hcz22_2 : w19.cell? ⟨gb104, 2, none⟩ = some (.slice A1_2 l1_2.length c1_2) := (blk_cell BK104.out 2).trans rfl; have hfz22_0 := blk_frozen BK104.out 0; have hfz22_1 := blk_frozen BK104.out 1; have hfz22_2 := blk_frozen BK104.out 2) | ((with_reducible refine gate_callee (f := 34) rfl ?_); refine goesL_ (some 9) rfl rfl Tryz.func34 (by kernel_rfl) rfl #[.slice A0_0 l0_0.length c0_0, .slice A1_0 l1_0.length c1_0] rfl (by (try simp only [List.map_toArray, List.map_cons, List.map_nil]); first | done | rfl | (simp only [List.length_drop, List.length_take]; rfl)) ?_; (with_reducible refine (secateurref19_SamePairs.calls k _ _ l0_0 _ _ l1_0 false _ ?side1 ?side2 ?side3 ?side4 A3.out).mono ?_); (case side1 => repeat (first | exact (Kd.C_below HR0_0.out HB.out) | (with_reducible refine Kd.C_alloc ?_ _) | (with_reducible refine Kd.C_drewN ?_ _) | (with_reducible refine Kd.C_drew ?_))); (case side2 => exact HC0_0.out); (case side3 => repeat (first | exact (Kd.C_below HR1_0.out HB.out) | (with_reducible refine Kd.C_alloc ?_ _) | (with_reducible refine Kd.C_drewN ?_ _) | (with_reducible refine Kd.C_drew ?_))); (case side4 => exact HC1_0.out); rintro e w' ⟨rfl, ⟨nd, rfl⟩⟩; refine ⟨_, rfl, ?_⟩))
    go_ret
    exact ⟨by first | rfl | (simp [errW_none, errW_some] <;> rfl) | (simp [*, errW_none, errW_some] <;> rfl), by repeat (first | (with_reducible first | exact HB.out | apply below_alloc | apply pw_below_drewN | apply below_drew1 | refine below_set ?_ GE103.out | refine below_set ?_ GE104.out) | exact HB.out)⟩
end Go.Proofs.YtaokkkolbifdpaaGreatDoor.Q33
end

section
namespace Go.Proofs.YtaokkkolbifdpaaGreatDoor.Q33
open Go.RowKit Go.Proofs.YtaokkkolbifdpaaGreatDoorW.PrintWords Go.Proofs.YtaokkkolbifdpaaGreatDoorW.PrintLast Go.Proofs.YtaokkkolbifdpaaGreatDoorW.PrintMore
attribute [local go_sem] max2_int min2_int max_two min_two max_three min_three max_four min_four   -- for this text's walks alone
set_option linter.unusedVariables false
set_option linter.unusedSimpArgs false
end Go.Proofs.YtaokkkolbifdpaaGreatDoor.Q33
end

section
namespace Go.Proofs.YtaokkkolbifdpaaGreatDoor.Hand
open Go.RowKit Go.Proofs.YtaokkkolbifdpaaGreatDoorW.PrintWords Go.Proofs.YtaokkkolbifdpaaGreatDoorW.PrintLast Go.Proofs.YtaokkkolbifdpaaGreatDoorW.PrintMore
set_option linter.unusedVariables false
set_option linter.unusedSimpArgs false
def fixC : S23 := ⟨⟨#[65, 108, 112, 104, 97]⟩, ⟨#[36]⟩⟩
def fixM : S23 := ⟨⟨#[109, 40, 73, 41, 86]⟩, ⟨#[36, 48]⟩⟩
def fixT : List UInt8 := [99, 108, 97, 115, 115, 32, 65, 108, 112, 104, 97, 32, 36, 10, 109, 101, 116, 104, 111, 100, 32, 109, 32, 40, 73, 41, 86, 32, 36, 48, 10]
theorem rising_one (x : List UInt8) : risingB [x] = [x] := by
  unfold risingB
  rw [List.mergeSort_singleton]
  unfold Lib.compact Lib.compactUpTo
  rfl
theorem unlike_one (x : List UInt8) : unlikeB [x] = true := by unfold unlikeB; rw [rising_one]; rfl
theorem unlike_nil : unlikeB [] = true := by unfold unlikeB; rw [rising_nil]; rfl
theorem rises_short (l : List S23) (h : l.length ≤ 1) : risesP l = true := decide_eq_true fun i hi => absurd hi (by omega)
theorem fix_right : rightS [fixC] [] [fixM] = true := by
  unfold rightS
  rw [rises_short _ (by decide), rises_short _ (by decide), rises_short _ (by decide)]
  simp only [List.map_cons, List.map_nil]
  rw [unlike_one, unlike_nil, unlike_one]
  decide +kernel
theorem fix_print : printS [fixC] [] [fixM] = (fixT, 0) := by
  unfold printS
  rw [fix_right, if_pos rfl]
  have h : textL (linesAll [fixC] [] [fixM]) = fixT := by decide +kernel
  rw [h]
  rfl
theorem fix_lines : linesL fixT = ([[99, 108, 97, 115, 115, 32, 65, 108, 112, 104, 97, 32, 36], [109, 101, 116, 104, 111, 100, 32, 109, 32, 40, 73, 41, 86, 32, 36, 48]], 0, 0) := by decide +kernel
theorem fix_reads : readsF [[99, 108, 97, 115, 115, 32, 65, 108, 112, 104, 97, 32, 36], [109, 101, 116, 104, 111, 100, 32, 109, 32, 40, 73, 41, 86, 32, 36, 48]] 0 ([], [], []) = (([fixC], [], [fixM]), 0) := by rfl
theorem fix_parse : parseS fixT = (([fixC], [], [fixM]), (0, 0)) := by
  unfold parseS
  rw [fix_lines, if_neg (fun h => h rfl), fix_reads, if_neg (fun h => h rfl)]
  show (if (printS [fixC] [] [fixM]).2 ≠ 0 ∨ (printS [fixC] [] [fixM]).1 ≠ fixT then _ else _) = _
  rw [fix_print, if_neg (fun h => h.elim (fun h => h rfl) (fun h => h rfl))]
theorem bad_parse : parseS [99, 108, 97, 115, 115, 32, 65, 10] = (([], [], []), (1, 1)) := by
  unfold parseS
  have h : linesL [99, 108, 97, 115, 115, 32, 65, 10] = ([[99, 108, 97, 115, 115, 32, 65]], 0, 0) := by decide +kernel
  have h2 : readsF [[99, 108, 97, 115, 115, 32, 65]] 0 ([], [], []) = (([], [], []), 1) := by rfl
  rw [h, if_neg (fun h => h rfl), h2, if_pos (show ¬ ((1 : Int) = 0) by decide)]
theorem fix_read : readS [109, 101, 116, 104, 111, 100, 32, 109, 32, 40, 73, 41, 86, 32, 36, 48] = (wMethod, ([109, 40, 73, 41, 86], [36, 48]), true) := by rfl
theorem fix_line : lineS wField ([102], [103]) = [102, 105, 101, 108, 100, 32, 102, 32, 103] := by decide +kernel
theorem no_line (x : List UInt8 × List UInt8) : lineS [120] x = [] := by
  unfold lineS
  rw [if_neg (by decide), if_neg (by decide)]
theorem fix_same : Q33.secateurref29_Same.f 2 [fixC] [] [fixM] [fixC] [] [fixM] = some true := by decide +kernel
end Go.Proofs.YtaokkkolbifdpaaGreatDoor.Hand
end

section
namespace Go.Proofs.YtaokkkolbifdpaaGreatDoor.Hand
open Go.RowKit Go.Proofs.YtaokkkolbifdpaaGreatDoorW.PrintWords Go.Proofs.YtaokkkolbifdpaaGreatDoorW.PrintLast Go.Proofs.YtaokkkolbifdpaaGreatDoorW.PrintMore
set_option linter.unusedVariables false
set_option linter.unusedSimpArgs false
theorem one_pair {w : World} {g : Nat} {x : S23} (h : w.heap[g]? = some (Obj.cells #[.string x.f0, .string x.f1] 23 (0, 0))) : Kd.C k23 w (some ⟨g, 0, none⟩) [x].length [x] := by
  refine ⟨rfl, by simp, fun _ => ⟨⟨g, 0, none⟩, rfl, fun j p hj => ?_⟩⟩
  have hj0 : j = 0 := by
    have := (List.getElem?_eq_some_iff.1 hj).1
    simp at this
    omega
  subst hj0
  obtain rfl : x = p := by simpa using hj
  refine ⟨[.string x.f0, .string x.f1], rfl, k23_mk w x, fun i u hu => ?_⟩
  have hb := blk_cell h i
  have e : (#[.string x.f0, .string x.f1] : Array Value)[i]? = some u := by rw [List.getElem?_toArray]; exact hu
  rw [e] at hb
  have ha : (⟨g, 0, none⟩ : Addr).add (0 * 2 + i) = ⟨g, i, none⟩ := by rw [Nat.zero_mul, Nat.zero_add]; exact add_plain g i
  exact ha ▸ hb
theorem okM_fix : okM ([fixC], [], [fixM]) 1048576 := ⟨by decide, fun x hx => by rw [List.mem_singleton.1 hx]; exact ⟨by decide, by decide⟩, fun x hx => by simp at hx, fun x hx => by rw [List.mem_singleton.1 hx]; exact ⟨by decide, by decide⟩⟩
structure Q6 (W : World) (gC gX gM gN gF gE gP : Nat) (A0 A1 A2 : Option Addr) (c0 c1 c2 : Nat) : Prop where
  m : W.heap[gM]? = some (Obj.cells #[.slice (some ⟨gC, 0, none⟩) 1 1, .slice none 0 0, .slice (some ⟨gX, 0, none⟩) 1 1] 34 (0, 0))
  n : W.heap[gN]? = some (Obj.cells #[.slice A0 1 c0, .slice A1 0 c1, .slice A2 1 c2] 34 (0, 0))
  f : W.heap[gF]? = some (Obj.cells #[.int .i64 0, .int .i64 0] 40 (0, 0))
  e : W.heap[gE]? = some (Obj.cells #[.int .i64 1, .int .i64 1] 40 (0, 0))
  p : W.heap[gP]? = some (Obj.cells #[.string ⟨#[109, 40, 73, 41, 86]⟩, .string ⟨#[36, 48]⟩] 23 (0, 0))
  x : W.heap[gX]? = some (Obj.cells #[.string ⟨#[109, 40, 73, 41, 86]⟩, .string ⟨#[36, 48]⟩] 23 (0, 0))
  c : W.heap[gC]? = some (Obj.cells #[.string fixC.f0, .string fixC.f1] 23 (0, 0))
  r0 : Kd.C k23 W A0 [fixC].length [fixC]
  r1 : Kd.C k23 W A1 ([] : List S23).length []
  r2 : Kd.C k23 W A2 [fixM].length [fixM]
  mx : MaxL W
theorem Q6.below {W W' : World} {gC gX gM gN gF gE gP : Nat} {A0 A1 A2 : Option Addr} {c0 c1 c2 : Nat} (h : Q6 W gC gX gM gN gF gE gP A0 A1 A2 c0 c1 c2) (hb : Below W.heap.size W W') : Q6 W' gC gX gM gN gF gE gP A0 A1 A2 c0 c1 c2 :=
  ⟨blk_below h.m hb, blk_below h.n hb, blk_below h.f hb, blk_below h.e hb, blk_below h.p hb, blk_below h.x hb, blk_below h.c hb, Kd.C_below h.r0 hb, Kd.C_below h.r1 hb, Kd.C_below h.r2 hb, h.mx.below hb⟩
theorem Q6.S {W : World} {gC gX gM gN gF gE gP : Nat} {A0 A1 A2 : Option Addr} {c0 c1 c2 : Nat} (h : Q6 W gC gX gM gN gF gE gP A0 A1 A2 c0 c1 c2) :
    W.cell? ⟨gM, 0, none⟩ = some (.slice (some ⟨gC, 0, none⟩) 1 1) ∧ W.cell? ⟨gM, 1, none⟩ = some (.slice none 0 0) ∧ W.cell? ⟨gM, 2, none⟩ = some (.slice (some ⟨gX, 0, none⟩) 1 1) ∧
    W.cell? ⟨gN, 0, none⟩ = some (.slice A0 1 c0) ∧ W.cell? ⟨gN, 1, none⟩ = some (.slice A1 0 c1) ∧ W.cell? ⟨gN, 2, none⟩ = some (.slice A2 1 c2) ∧
    W.cell? ⟨gF, 0, none⟩ = some (.int .i64 0) ∧ W.cell? ⟨gF, 1, none⟩ = some (.int .i64 0) ∧ W.cell? ⟨gE, 0, none⟩ = some (.int .i64 1) ∧ W.cell? ⟨gE, 1, none⟩ = some (.int .i64 1) ∧
    W.cell? ⟨gP, 0, none⟩ = some (.string ⟨#[109, 40, 73, 41, 86]⟩) ∧ W.cell? ⟨gP, 1, none⟩ = some (.string ⟨#[36, 48]⟩) ∧ W.cell? ⟨gX, 0, none⟩ = some (.string ⟨#[109, 40, 73, 41, 86]⟩) ∧ W.cell? ⟨gX, 1, none⟩ = some (.string ⟨#[36, 48]⟩) :=
  ⟨blk_cell h.m 0, blk_cell h.m 1, blk_cell h.m 2, blk_cell h.n 0, blk_cell h.n 1, blk_cell h.n 2, blk_cell h.f 0, blk_cell h.f 1, blk_cell h.e 0, blk_cell h.e 1, blk_cell h.p 0, blk_cell h.p 1, blk_cell h.x 0, blk_cell h.x 1⟩
theorem same_call {W : World} {gC gX gM gN gF gE gP : Nat} {A0 A1 A2 : Option Addr} {c0 c1 c2 : Nat} (h : Q6 W gC gX gM gN gF gE gP A0 A1 A2 c0 c1 c2) (h0 : 1 ≤ c0) (h2 : 1 ≤ c2) :
    Calls Tryz.prog 17 #[.agg #[.slice (some ⟨gC, 0, none⟩) 1 1, .slice none 0 0, .slice (some ⟨gX, 0, none⟩) 1 1], .agg #[.slice A0 1 c0, .slice A1 0 c1, .slice A2 1 c2]] W fun e w' => e = .returned (.bool true) ∧ Below W.heap.size W w' :=
  Q33.secateurref29_Same.calls 2 (some ⟨gC, 0, none⟩) 1 [fixC] none 0 [] (some ⟨gX, 0, none⟩) 1 [fixM] A0 c0 [fixC] A1 c1 [] A2 c2 [fixM] true W (one_pair h.c) (Nat.le_refl _) (Kd.C_nil _ _) (Nat.le_refl _) (one_pair (x := fixM) h.x) (Nat.le_refl _) h.r0 h0 h.r1 (Nat.zero_le _) h.r2 h2 fix_same
theorem line_call1 (W : World) (hM : MaxL W) : Calls Tryz.prog 9 #[.string ⟨#[102, 105, 101, 108, 100]⟩, .agg #[.string ⟨#[102]⟩, .string ⟨#[103]⟩]] W fun e w' => e = .returned (.string ⟨#[102, 105, 101, 108, 100, 32, 102, 32, 103]⟩) ∧ Below W.heap.size W w' := by
  have h := Q32.legend_Line.calls 1 ⟨#[102, 105, 101, 108, 100]⟩ ⟨#[102]⟩ ⟨#[103]⟩ _ W hM (legLine_eq _ _ _ (by decide) (by decide))
  rw [show lineS (bl ⟨#[102, 105, 101, 108, 100]⟩) (bl ⟨#[102]⟩, bl ⟨#[103]⟩) = [102, 105, 101, 108, 100, 32, 102, 32, 103] from fix_line] at h
  exact h
theorem line_call2 (W : World) (hM : MaxL W) : Calls Tryz.prog 9 #[.string ⟨#[120]⟩, .agg #[.string ⟨#[109, 40, 73, 41, 86]⟩, .string ⟨#[36, 48]⟩]] W fun e w' => e = .returned (.string ⟨#[]⟩) ∧ Below W.heap.size W w' := by
  have h := Q32.legend_Line.calls 1 ⟨#[120]⟩ ⟨#[109, 40, 73, 41, 86]⟩ ⟨#[36, 48]⟩ _ W hM (legLine_eq _ _ _ (by decide) (by decide))
  rw [show lineS (bl ⟨#[120]⟩) (bl ⟨#[109, 40, 73, 41, 86]⟩, bl ⟨#[36, 48]⟩) = [] from no_line _] at h
  exact h
set_option maxHeartbeats 32000000 in
set_option maxRecDepth 20000 in
theorem legend_sure (w : World) (hM : MaxL w) : Calls Tryz.prog 6 #[] w fun e w' => e = .returned (.bool true) ∧ Below w.heap.size w w' := by
  have hb1 := below_alloc (below_alloc (below_alloc (Below.refl w.heap.size w) (Obj.cells #[.string fixC.f0, .string fixC.f1] 23)) (Obj.cells #[.string fixM.f0, .string fixM.f1] 23)) (Obj.cells #[.slice (some ⟨w.heap.size, 0, none⟩) 1 1, .slice none 0 0, .slice (some ⟨w.heap.size + 1, 0, none⟩) 1 1] 34)
  have g1 := blk_alloc (blk_alloc (World.alloc_heap_new w (Obj.cells #[.string fixC.f0, .string fixC.f1] 23)) (Obj.cells #[.string fixM.f0, .string fixM.f1] 23)) (Obj.cells #[.slice (some ⟨w.heap.size, 0, none⟩) 1 1, .slice none 0 0, .slice (some ⟨w.heap.size + 1, 0, none⟩) 1 1] 34)
  have g2 := World.alloc_heap_new (w.alloc (Obj.cells #[.string fixC.f0, .string fixC.f1] 23)) (Obj.cells #[.string fixM.f0, .string fixM.f1] 23)
  rw [World.size_alloc] at g2
  have g2 := blk_alloc g2 (Obj.cells #[.slice (some ⟨w.heap.size, 0, none⟩) 1 1, .slice none 0 0, .slice (some ⟨w.heap.size + 1, 0, none⟩) 1 1] 34)
  have g3 := World.alloc_heap_new ((w.alloc (Obj.cells #[.string fixC.f0, .string fixC.f1] 23)).alloc (Obj.cells #[.string fixM.f0, .string fixM.f1] 23)) (Obj.cells #[.slice (some ⟨w.heap.size, 0, none⟩) 1 1, .slice none 0 0, .slice (some ⟨w.heap.size + 1, 0, none⟩) 1 1] 34)
  rw [World.size_alloc, World.size_alloc] at g3
  have HPr := Aside0.mk (legend_print' (some ⟨w.heap.size, 0, none⟩) 1 [fixC] none 0 [] (some ⟨w.heap.size + 1, 0, none⟩) 1 [fixM] _ (one_pair g1) (Nat.le_refl _) (Kd.C_nil _ _) (Nat.le_refl _) (one_pair g2) (Nat.le_refl _) okM_fix (hM.below hb1))
  rw [fix_print] at HPr
  obtain ⟨t, ht⟩ : ∃ t, t = lb fixT := ⟨_, rfl⟩
  have htl : t.toList = fixT := by rw [ht, toList_bl, bl_lb]
  have hbt : bl t = fixT := by rw [ht, bl_lb]
  have HPa := Aside0.mk (fun W (h : MaxL W) => legend_parse t (by rw [size_of_bl hbt]; decide) W h)
  rw [hbt, fix_parse] at HPa
  have HPb := Aside0.mk (fun W (h : MaxL W) => legend_parse ⟨#[99, 108, 97, 115, 115, 32, 65, 10]⟩ (by decide) W h)
  rw [show bl (⟨#[99, 108, 97, 115, 115, 32, 65, 10]⟩ : ByteArray) = [99, 108, 97, 115, 115, 32, 65, 10] from rfl, bad_parse] at HPb
  have HRd : Aside0 (∀ W, MaxL W → Calls Tryz.prog 7 #[.string ⟨#[109, 101, 116, 104, 111, 100, 32, 109, 32, 40, 73, 41, 86, 32, 36, 48]⟩] W fun e w' => e = .returned (.tuple #[.string ⟨#[109, 101, 116, 104, 111, 100]⟩, .agg #[.string ⟨#[109, 40, 73, 41, 86]⟩, .string ⟨#[36, 48]⟩], .bool true]) ∧ Below W.heap.size W w') := ⟨fun W h => by
    have h1 := read_call ⟨#[109, 101, 116, 104, 111, 100, 32, 109, 32, 40, 73, 41, 86, 32, 36, 48]⟩ (by decide) W h
    rw [show bl (⟨#[109, 101, 116, 104, 111, 100, 32, 109, 32, 40, 73, 41, 86, 32, 36, 48]⟩ : ByteArray) = [109, 101, 116, 104, 111, 100, 32, 109, 32, 40, 73, 41, 86, 32, 36, 48] from rfl, fix_read] at h1
    exact h1⟩
  rw [← ht] at HPr
  have HG1 := Aside0.mk g1
  have HG2 := Aside0.mk g2
  have HG3 := Aside0.mk g3
  have HB1 := Aside0.mk hb1
  have HM1 := Aside0.mk (hM.below hb1)
  have t1 : (t.toList == ([99, 108, 97, 115, 115, 32, 65, 108, 112, 104, 97, 32, 36, 10, 109, 101, 116, 104, 111, 100, 32, 109, 32, 40, 73, 41, 86, 32, 36, 48, 10] : List UInt8)) = true := by rw [htl]; rfl
  clear ht htl hbt hM g1 g2 g3 hb1
  go_enter Tryz.func6, Tryz.ntmps6
  go_wp2_with fail
  refine HPr.out.mono ?_
  rintro e w2 ⟨rfl, hb⟩
  have HB2 := Aside0.mk (below_step HB1.out hb)
  have HG12 := Aside0.mk (blk_below HG1.out hb)
  have HG22 := Aside0.mk (blk_below HG2.out hb)
  have HG32 := Aside0.mk (blk_below HG3.out hb)
  have HM2 := Aside0.mk (HM1.out.below hb)
  clear hb
  go_wp2_with fail
  refine (HPa.out _ HM2.out).mono ?_
  rintro e w3 ⟨v0, v1, v2, rfl, hR0, hR1, hR2, hb⟩
  obtain ⟨A0, c0, rfl, hc0, hC0⟩ := Kd.R_reads hR0
  obtain ⟨A1, c1, rfl, hc1, hC1⟩ := Kd.R_reads hR1
  obtain ⟨A2, c2, rfl, hc2, hC2⟩ := Kd.R_reads hR2
  have HB3 := Aside0.mk (below_step HB2.out hb)
  have HG13 := Aside0.mk (blk_below HG12.out hb)
  have HG23 := Aside0.mk (blk_below HG22.out hb)
  have HG33 := Aside0.mk (blk_below HG32.out hb)
  have HM3 := Aside0.mk (HM2.out.below hb)
  have HCC := Aside0.mk (And.intro hC0 (And.intro hC1 hC2))
  have HcC := Aside0.mk (And.intro hc0 (And.intro hc1 hc2))
  clear hb hR0 hR1 hR2 hC0 hC1 hC2 hc0 hc1 hc2
  go_wp2_with fail
  have HN3 := Aside0.mk (blk_alloc (World.alloc_heap_new w3 (Obj.cells #[.slice A0 1 c0, .slice A1 0 c1, .slice A2 1 c2] 34)) (Obj.cells #[.int .i64 0, .int .i64 0] 40))
  have hf3 := World.alloc_heap_new (w3.alloc (Obj.cells #[.slice A0 1 c0, .slice A1 0 c1, .slice A2 1 c2] 34)) (Obj.cells #[.int .i64 0, .int .i64 0] 40)
  rw [World.size_alloc] at hf3
  have HF3 := Aside0.mk hf3
  clear hf3
  have HW3 := Aside0.mk (below_alloc (below_alloc (Below.refl w3.heap.size w3) (Obj.cells #[.slice A0 1 c0, .slice A1 0 c1, .slice A2 1 c2] 34)) (Obj.cells #[.int .i64 0, .int .i64 0] 40))
  refine (HPb.out _ (HM3.out.below HW3.out)).mono ?_
  rintro e w4 ⟨u0, u1, u2, rfl, hR0, hR1, hR2, hb⟩
  obtain ⟨B0, d0, rfl, _, _⟩ := Kd.R_reads hR0
  obtain ⟨B1, d1, rfl, _, _⟩ := Kd.R_reads hR1
  obtain ⟨B2, d2, rfl, _, _⟩ := Kd.R_reads hR2
  have hb4 := below_step HW3.out hb
  have HB4 := Aside0.mk (below_step HB3.out hb4)
  have HN4 := Aside0.mk (blk_below HN3.out hb)
  have HF4 := Aside0.mk (blk_below HF3.out hb)
  have HG14 := Aside0.mk (blk_below HG13.out hb4)
  have HG24 := Aside0.mk (blk_below HG23.out hb4)
  have HG34 := Aside0.mk (blk_below HG33.out hb4)
  have HM4 := Aside0.mk (HM3.out.below hb4)
  have HC4 := Aside0.mk hb4
  clear hb hb4 hR0 hR1 hR2 HN3 HF3 HG13 HG23 HG33
  go_wp2_with fail
  have HW4 := Aside0.mk (below_alloc (below_alloc (Below.refl w4.heap.size w4) (Obj.cells #[.slice B0 0 d0, .slice B1 0 d1, .slice B2 0 d2] 34)) (Obj.cells #[.int .i64 1, .int .i64 1] 40))
  have hf4 := World.alloc_heap_new (w4.alloc (Obj.cells #[.slice B0 0 d0, .slice B1 0 d1, .slice B2 0 d2] 34)) (Obj.cells #[.int .i64 1, .int .i64 1] 40)
  rw [World.size_alloc] at hf4
  refine (HRd.out _ (HM4.out.below HW4.out)).mono ?_
  rintro e w5 ⟨rfl, hb⟩
  have hb5 := below_step HW4.out hb
  have HB5 := Aside0.mk (below_step HB4.out hb5)
  have HN5 := Aside0.mk (blk_below HN4.out hb5)
  have HF5 := Aside0.mk (blk_below HF4.out hb5)
  have HE5 := Aside0.mk (blk_below hf4 hb)
  have HG15 := Aside0.mk (blk_below HG14.out hb5)
  have HG25 := Aside0.mk (blk_below HG24.out hb5)
  have HG35 := Aside0.mk (blk_below HG34.out hb5)
  have HM5 := Aside0.mk (HM4.out.below hb5)
  have HC5 := Aside0.mk (below_step HC4.out hb5)
  clear hb hb5 hf4
  go_wp2_with fail
  have hz := below_alloc (Below.refl w5.heap.size w5) (Obj.cells #[.string ⟨#[109, 40, 73, 41, 86]⟩, .string ⟨#[36, 48]⟩] 23)
  have hq6 : Q6 (w5.alloc (Obj.cells #[.string ⟨#[109, 40, 73, 41, 86]⟩, .string ⟨#[36, 48]⟩] 23)) w.heap.size (w.heap.size + 1) (w.heap.size + 1 + 1) w3.heap.size (w3.heap.size + 1) (w4.heap.size + 1) w5.heap.size A0 A1 A2 c0 c1 c2 :=
    ⟨blk_alloc HG35.out _, blk_alloc HN5.out _, blk_alloc HF5.out _, blk_alloc HE5.out _, World.alloc_heap_new w5 _, blk_alloc HG25.out _, blk_alloc HG15.out _, Kd.C_below HCC.out.1 (below_step HC5.out hz), Kd.C_below HCC.out.2.1 (below_step HC5.out hz), Kd.C_below HCC.out.2.2 (below_step HC5.out hz), HM5.out.below hz⟩
  have HQ6 := Aside0.mk hq6
  have HB6 := Aside0.mk (below_step HB5.out hz)
  have HSame := Aside0.mk (fun (W : World) (h : Q6 W w.heap.size (w.heap.size + 1) (w.heap.size + 1 + 1) w3.heap.size (w3.heap.size + 1) (w4.heap.size + 1) w5.heap.size A0 A1 A2 c0 c1 c2) => same_call h (show 1 ≤ c0 from HcC.out.1) (show 1 ≤ c2 from HcC.out.2.2))
  have e40 : ∀ W, (binOp .eql 40 (.agg #[.int .i64 0, .int .i64 0]) (.agg #[.int .i64 0, .int .i64 0])).run Tryz.prog W = .ok (.bool true) W := fun W => by kernel_rfl
  have e41 : ∀ W, (binOp .eql 40 (.agg #[.int .i64 1, .int .i64 1]) (.agg #[.int .i64 1, .int .i64 1])).run Tryz.prog W = .ok (.bool true) W := fun W => by kernel_rfl
  have e23 : ∀ W, (binOp .eql 23 (.agg #[.string ⟨#[109, 40, 73, 41, 86]⟩, .string ⟨#[36, 48]⟩]) (.agg #[.string ⟨#[109, 40, 73, 41, 86]⟩, .string ⟨#[36, 48]⟩])).run Tryz.prog W = .ok (.bool true) W := fun W => by kernel_rfl
  clear hz hq6 HN5 HF5 HE5 HG15 HG25 HG35
  obtain ⟨w6, hw6⟩ : ∃ W, w5.alloc (Obj.cells #[.string ⟨#[109, 40, 73, 41, 86]⟩, .string ⟨#[36, 48]⟩] 23) = W := ⟨_, rfl⟩
  rw [hw6] at HQ6 HB6 ⊢
  clear hw6
  go_region_held3 (fun w' => w'.cell? ⟨w.heap.size + 1 + 1, 0, none⟩ = some (.slice (some ⟨w.heap.size, 0, none⟩) 1 1) ∧ w'.cell? ⟨w.heap.size + 1 + 1, 1, none⟩ = some (.slice none 0 0) ∧ w'.cell? ⟨w.heap.size + 1 + 1, 2, none⟩ = some (.slice (some ⟨w.heap.size + 1, 0, none⟩) 1 1) ∧ w'.cell? ⟨w3.heap.size, 0, none⟩ = some (.slice A0 1 c0) ∧ w'.cell? ⟨w3.heap.size, 1, none⟩ = some (.slice A1 0 c1) ∧ w'.cell? ⟨w3.heap.size, 2, none⟩ = some (.slice A2 1 c2) ∧ w'.cell? ⟨w3.heap.size + 1, 0, none⟩ = some (.int .i64 0) ∧ w'.cell? ⟨w3.heap.size + 1, 1, none⟩ = some (.int .i64 0) ∧ w'.cell? ⟨w4.heap.size + 1, 0, none⟩ = some (.int .i64 1) ∧ w'.cell? ⟨w4.heap.size + 1, 1, none⟩ = some (.int .i64 1) ∧ w'.cell? ⟨w5.heap.size, 0, none⟩ = some (.string ⟨#[109, 40, 73, 41, 86]⟩) ∧ w'.cell? ⟨w5.heap.size, 1, none⟩ = some (.string ⟨#[36, 48]⟩) ∧ w'.cell? ⟨w.heap.size + 1, 0, none⟩ = some (.string ⟨#[109, 40, 73, 41, 86]⟩) ∧ w'.cell? ⟨w.heap.size + 1, 1, none⟩ = some (.string ⟨#[36, 48]⟩)) (first | with_reducible exact (HQ6.out.below (below_drew1 (Below.refl _ _))).S | with_reducible exact HQ7.out.S | with_reducible exact HQ8.out.S | with_reducible exact HQ9.out.S | fail "keep") ((first
    | (go_at_call 17; (with_reducible refine (HSame.out _ (HQ6.out.below (below_drew1 (Below.refl _ _)))).mono ?_); rintro e w7 ⟨rfl, hb⟩; have hb_ := below_step (below_drew1 (Below.refl w6.heap.size w6)) hb; have HQ7 := Aside0.mk (HQ6.out.below hb_); have HB7 := Aside0.mk (below_step HB6.out hb_); clear hb hb_)
    | (go_at_call 9; (with_reducible refine (line_call1 _ HQ7.out.mx).mono ?_); rintro e w8 ⟨rfl, hb⟩; have HQ8 := Aside0.mk (HQ7.out.below hb); have HB8 := Aside0.mk (below_step HB7.out hb); clear hb)
    | (go_at_call 9; (with_reducible refine (line_call2 _ HQ8.out.mx).mono ?_); rintro e w9 ⟨rfl, hb⟩; have HQ9 := Aside0.mk (HQ8.out.below hb); have HB9 := Aside0.mk (below_step HB8.out hb); clear hb)))
  go_wp2_with fail
  exact bodyPost_ret (results_tmp rfl _ _ _) rfl ⟨rfl, HB9.out⟩
end Go.Proofs.YtaokkkolbifdpaaGreatDoor.Hand
end

section
namespace Go.Proofs.YtaokkkolbifdpaaGreatDoor.Hand
open Go.RowKit Go.Proofs.YtaokkkolbifdpaaGreatDoorW.PrintWords Go.Proofs.YtaokkkolbifdpaaGreatDoorW.PrintLast Go.Proofs.YtaokkkolbifdpaaGreatDoorW.PrintMore
set_option linter.unusedVariables false
set_option linter.unusedSimpArgs false
def legend_Line.f (what old new : ByteArray) : Option ByteArray := if old.size ≤ 1048576 ∧ new.size ≤ 1048576 then some (lb (lineS (bl what) (bl old, bl new))) else none
theorem legend_Line.calls (a0 : ByteArray) (a1_0 : ByteArray) (a1_1 : ByteArray) (r : ByteArray) (w : World) (hGMaxL : MaxL w) (h : legend_Line.f a0 a1_0 a1_1 = some r) :
    Calls Tryz.prog 9 #[.string a0, .agg #[.string a1_0, .string a1_1]] w fun e w' => e = .returned (.string r) ∧ Below w.heap.size w w' := by
  unfold legend_Line.f at h
  split at h
  · rename_i hs
    exact Q32.legend_Line.calls 1 a0 a1_0 a1_1 r w hGMaxL ((legLine_eq a0 a1_0 a1_1 hs.1 hs.2).trans h)
  · cases h
def legend_Read.f (s : ByteArray) : Option (ByteArray × ByteArray × ByteArray × Bool) := if s.size ≤ 1048576 then some (legOut (readS (bl s))) else none
theorem legend_Read.calls (a0 : ByteArray) (r1 : ByteArray) (r2 : ByteArray) (r3 : ByteArray) (r4 : Bool) (w : World) (hGMaxL : MaxL w) (h : legend_Read.f a0 = some (r1, r2, r3, r4)) :
    Calls Tryz.prog 7 #[.string a0] w fun e w' => e = .returned (.tuple #[.string r1, .agg #[.string r2, .string r3], .bool r4]) ∧ Below w.heap.size w w' := by
  unfold legend_Read.f at h
  split at h
  · rename_i hs
    exact Q32.legend_Read.calls 1 a0 r1 r2 r3 r4 w hGMaxL ((legRead_eq a0 hs).trans h)
  · cases h
end Go.Proofs.YtaokkkolbifdpaaGreatDoor.Hand
end

section
namespace Go.Proofs.YtaokkkolbifdpaaGreatDoor.Q31
open Go.RowKit Go.Proofs.YtaokkkolbifdpaaGreatDoorW.PrintWords Go.Proofs.YtaokkkolbifdpaaGreatDoorW.PrintLast Go.Proofs.YtaokkkolbifdpaaGreatDoorW.PrintMore Go.Proofs.YtaokkkolbifdpaaGreatDoor.Hand
attribute [local go_sem] max2_int min2_int max_two min_two max_three min_three max_four min_four   -- for this text's walks alone
set_option linter.unusedVariables false
set_option linter.unusedSimpArgs false
def errW : Option Int → Value
  | none => .nilIface
  | some c => .iface 0 (.int .i64 c)
theorem errW_none : errW none = .nilIface := rfl
theorem errW_some (c : Int) : errW (some c) = .iface 0 (.int .i64 c) := rfl
end Go.Proofs.YtaokkkolbifdpaaGreatDoor.Q31
end

section
namespace Go.Proofs.YtaokkkolbifdpaaGreatDoor.Q31
open Go.RowKit Go.Proofs.YtaokkkolbifdpaaGreatDoorW.PrintWords Go.Proofs.YtaokkkolbifdpaaGreatDoorW.PrintLast Go.Proofs.YtaokkkolbifdpaaGreatDoorW.PrintMore Go.Proofs.YtaokkkolbifdpaaGreatDoor.Hand
attribute [local go_sem] max2_int min2_int max_two min_two max_three min_three max_four min_four   -- for this text's walks alone
set_option linter.unusedVariables false
set_option linter.unusedSimpArgs false
end Go.Proofs.YtaokkkolbifdpaaGreatDoor.Q31
end

section
namespace Go.Proofs.YtaokkkolbifdpaaGreatDoor.Q31
open Go.RowKit Go.Proofs.YtaokkkolbifdpaaGreatDoorW.PrintWords Go.Proofs.YtaokkkolbifdpaaGreatDoorW.PrintLast Go.Proofs.YtaokkkolbifdpaaGreatDoorW.PrintMore
attribute [local go_sem] max2_int min2_int max_two min_two max_three min_three max_four min_four   -- for this text's walks alone
set_option linter.unusedVariables false
set_option linter.unusedSimpArgs false
end Go.Proofs.YtaokkkolbifdpaaGreatDoor.Q31
end

section
namespace Go.Proofs.YtaokkkolbifdpaaGreatDoor.Hand
open Go.RowKit Go.Proofs.YtaokkkolbifdpaaGreatDoorW.PrintWords Go.Proofs.YtaokkkolbifdpaaGreatDoorW.PrintLast Go.Proofs.YtaokkkolbifdpaaGreatDoorW.PrintMore
set_option linter.unusedVariables false
set_option linter.unusedSimpArgs false
theorem key_at : ∀ (a r : List UInt8), (40 : UInt8) ∉ a → keyN (a ++ 40 :: r) = a ∧ keyD (a ++ 40 :: r) = 40 :: r
  | [], r, _ => by simp [keyN, keyD]
  | b :: a, r, h => by
    have hb : (b != 40) = true := bne_iff_ne.2 fun e => h (by rw [e]; exact List.mem_cons_self)
    obtain ⟨h1, h2⟩ := key_at a r fun hm => h (List.mem_cons_of_mem _ hm)
    unfold keyN at h1
    unfold keyD at h2
    unfold keyN keyD
    rw [List.cons_append, List.takeWhile_cons, List.dropWhile_cons, hb, if_pos rfl, if_pos rfl, h1, h2]
    exact ⟨rfl, rfl⟩
end Go.Proofs.YtaokkkolbifdpaaGreatDoor.Hand
end

section
namespace Go.Proofs.YtaokkkolbifdpaaGreatDoor.PLegendPairs
open Go.RowKit Go.Proofs.YtaokkkolbifdpaaGreatDoorW.PrintWords Go.Proofs.YtaokkkolbifdpaaGreatDoorW.PrintLast Go.Proofs.YtaokkkolbifdpaaGreatDoorW.PrintMore Go.Proofs.YtaokkkolbifdpaaGreatDoor.Hand
attribute [local go_sem] max2_int min2_int max_two min_two max_three min_three max_four min_four   -- for this text's walks alone
set_option linter.unusedVariables false
set_option linter.unusedSimpArgs false
def errW : Option Int → Value
  | none => .nilIface
  | some c => .iface 0 (.int .i64 c)
theorem errW_none : errW none = .nilIface := rfl
theorem errW_some (c : Int) : errW (some c) = .iface 0 (.int .i64 c) := rfl
end Go.Proofs.YtaokkkolbifdpaaGreatDoor.PLegendPairs
end

section
namespace Go.Proofs.YtaokkkolbifdpaaGreatDoor.PLegendPairs
open Go.RowKit Go.Proofs.YtaokkkolbifdpaaGreatDoorW.PrintWords Go.Proofs.YtaokkkolbifdpaaGreatDoorW.PrintLast Go.Proofs.YtaokkkolbifdpaaGreatDoorW.PrintMore Go.Proofs.YtaokkkolbifdpaaGreatDoor.Hand
attribute [local go_sem] max2_int min2_int max_two min_two max_three min_three max_four min_four   -- for this text's walks alone
set_option linter.unusedVariables false
set_option linter.unusedSimpArgs false
def secateurlaw30_blank.l0 : Nat → ByteArray → Int → Option (Bool)
  | 0, _, _ => none
  | k + 1, x0, x3 => if x3 < (x0.size : Int) then (if 0 ≤ x3 then (if (bt x0 x3) = 32 then (some true) else (secateurlaw30_blank.l0 k x0 (wrap64 (x3 + 1)))) else (none)) else (some false)
def secateurlaw30_blank.f (k : Nat) (a0 : ByteArray) : Option (Bool) := secateurlaw30_blank.l0 k a0 0
theorem secateurlaw30_blank.mono_l : ∀ k, (∀ y0 y1, LeO (secateurlaw30_blank.l0 k y0 y1) (secateurlaw30_blank.l0 (k + 1) y0 y1))
  | 0 => fun _ _ r h => by simp [secateurlaw30_blank.l0] at h
  | k + 1 => by
    have ih0 := secateurlaw30_blank.mono_l k
    · intro y0 y1
      unfold secateurlaw30_blank.l0
      repeat' first
      | (with_reducible exact ih0 _ _)
      | (with_reducible exact LeO.refl _)
      | (with_reducible exact LeO.none _)
      | (with_reducible refine LeO.ite ?_ ?_)
      | (with_reducible refine LeO.bind ?_ (fun _ => ?_))
      | exact ih0 _ _
      | exact LeO.none _
      | refine LeO.ite ?_ ?_
      | refine LeO.bind ?_ (fun _ => ?_)
theorem secateurlaw30_blank.mono : ∀ a0 k, LeO (secateurlaw30_blank.f k a0) (secateurlaw30_blank.f (k + 1) a0) := by
  intro a0 k
  have ih0 := secateurlaw30_blank.mono_l k
  unfold secateurlaw30_blank.f
  repeat' first
      | (with_reducible exact ih0 _ _)
      | (with_reducible exact LeO.refl _)
      | (with_reducible exact LeO.none _)
      | (with_reducible refine LeO.ite ?_ ?_)
      | (with_reducible refine LeO.bind ?_ (fun _ => ?_))
      | exact ih0 _ _
      | exact LeO.none _
      | refine LeO.ite ?_ ?_
      | refine LeO.bind ?_ (fun _ => ?_)
set_option maxHeartbeats 8000000 in
set_option maxRecDepth 100000 in
theorem secateurlaw30_blank.calls (k : Nat) (a0 : ByteArray) (r : Bool) (w : World) (h : secateurlaw30_blank.f k a0 = some r) :
    Calls Tryz.prog 11 #[.string a0] w fun e w' => e = .returned (.bool r) ∧ Drawn0 w w' := by
  have H : (secateurlaw30_blank.l0 k a0 0) = some r := h
  clear h
  have H' := Aside0.mk H
  clear H
  go_enter Tryz.func11, Tryz.ntmps11
  go_wp2
  go_loopg [3] k (fun kq v3 w' => ∃ (x3_1 : Int), v3 = .int .i64 x3_1 ∧ Aside0 (secateurlaw30_blank.l0 kq a0 x3_1 = some r) ∧ Aside0 (kq ≤ k) ∧ Drawn0 w w')
  case atStart => exact ⟨(0), (by first | rfl | (simp; done) | (simp [*]; done)), H', ⟨Nat.le_refl _⟩, by repeat (first | exact Drawn0.refl _ | apply Drawn0.step)⟩
  case round =>
    clear H'
    try clear c1
    obtain ⟨x3_1, rfl, HA, HK1, ⟨m1, rfl⟩⟩ := hrel
    cases gk with
    | zero => exact absurd HA.out (by simp [secateurlaw30_blank.l0])
    | succ k1 =>
      have H := HA.out
      clear HA
      simp only [secateurlaw30_blank.l0] at H
      by_cases c2 : x3_1 < (a0.size : Int)
      · rw [if_pos c2] at H
        have c2b0 : decide (x3_1 < (a0.size : Int)) = true := decide_eq_true c2
        clear c2
        by_cases c3 : 0 ≤ x3_1
        · rw [if_pos c3] at H
          have c3b0 : decide (0 ≤ x3_1) = true := decide_eq_true c3
          clear c3
          by_cases c5 : (bt a0 x3_1) = 32
          · rw [if_pos c5] at H
            have c5b0 : ((bt a0 x3_1) == 32) = true := beq_iff_eq.mpr c5
            have c5b1 : ((bt a0 x3_1) != 32) = false := bne_eq_false_iff_eq.mpr c5
            clear c5
            obtain rfl := Option.some.inj H
            have p4 : 0 ≤ (x3_1 : Int) := of_decide_eq_true (by first | (with_reducible assumption) | assumption)
            have q4 : x3_1 < (a0.size : Int) := of_decide_eq_true (by first | (with_reducible assumption) | assumption)
            have hx4 := bt_at a0 x3_1
            replace p4 := eq_true p4
            replace q4 := eq_true q4
            go_wp2
            go_ret
            exact ⟨by first | rfl | (simp; done) | (simp [*]; done), by repeat (first | exact Drawn0.refl _ | apply Drawn0.step)⟩
          · rw [if_neg c5] at H
            have c5b0 : ((bt a0 x3_1) == 32) = false := beq_eq_false_iff_ne.mpr c5
            have c5b1 : ((bt a0 x3_1) != 32) = true := bne_iff_ne.mpr c5
            have H' := Aside0.mk H
            clear H
            have p4 : 0 ≤ (x3_1 : Int) := of_decide_eq_true (by first | (with_reducible assumption) | assumption)
            have q4 : x3_1 < (a0.size : Int) := of_decide_eq_true (by first | (with_reducible assumption) | assumption)
            have hx4 := bt_at a0 x3_1
            replace p4 := eq_true p4
            replace q4 := eq_true q4
            go_wp2
            go_roundg k1
            case measure => have := HK1.out; omega
            case rel => exact ⟨(wrap64 (x3_1 + 1)), (by first | rfl | (simp; done) | (simp [*]; done)), H', ⟨by have := HK1.out; omega⟩, by repeat (first | exact Drawn0.refl _ | apply Drawn0.step)⟩
        · rw [if_neg c3] at H
          exact absurd H (by simp)
      · rw [if_neg c2] at H
        have c2b0 : decide (x3_1 < (a0.size : Int)) = false := decide_eq_false c2
        clear c2
        obtain rfl := Option.some.inj H
        go_wp2
        go_ret
        exact ⟨by first | rfl | (simp; done) | (simp [*]; done), by repeat (first | exact Drawn0.refl _ | apply Drawn0.step)⟩
end Go.Proofs.YtaokkkolbifdpaaGreatDoor.PLegendPairs
end

section
namespace Go.Proofs.YtaokkkolbifdpaaGreatDoor.PLegendPairs
open Go.RowKit Go.Proofs.YtaokkkolbifdpaaGreatDoorW.PrintWords Go.Proofs.YtaokkkolbifdpaaGreatDoorW.PrintLast Go.Proofs.YtaokkkolbifdpaaGreatDoorW.PrintMore Go.Proofs.YtaokkkolbifdpaaGreatDoor.Hand
attribute [local go_sem] max2_int min2_int max_two min_two max_three min_three max_four min_four   -- for this text's walks alone
set_option linter.unusedVariables false
set_option linter.unusedSimpArgs false
end Go.Proofs.YtaokkkolbifdpaaGreatDoor.PLegendPairs
end

section
namespace Go.Proofs.YtaokkkolbifdpaaGreatDoor.Hand
open Go.RowKit Go.Proofs.YtaokkkolbifdpaaGreatDoorW.PrintWords Go.Proofs.YtaokkkolbifdpaaGreatDoorW.PrintLast Go.Proofs.YtaokkkolbifdpaaGreatDoorW.PrintMore
set_option linter.unusedVariables false
set_option linter.unusedSimpArgs false
theorem blank_loop (s : ByteArray) (hs : s.size ≤ 1048576) : ∀ (d k i : Nat), s.size - i = d → i ≤ s.size → d < k → (32 : UInt8) ∉ (bl s).take i → PLegendPairs.secateurlaw30_blank.l0 k s (i : Int) = some (decide ((32 : UInt8) ∈ bl s))
  | 0, k, i, hd, hi, hk, hn => by
    obtain ⟨k, rfl⟩ : ∃ j, k = j + 1 := ⟨k - 1, by omega⟩
    rw [List.take_of_length_le (by rw [bl_len]; omega)] at hn
    rw [PLegendPairs.secateurlaw30_blank.l0, if_neg (by omega), decide_eq_false hn]
  | d + 1, k, i, hd, hi, hk, hn => by
    obtain ⟨k, rfl⟩ : ∃ j, k = j + 1 := ⟨k - 1, by omega⟩
    have hlt : i < s.size := by omega
    have hdr : (bl s).drop i = s[i] :: (bl s).drop (i + 1) := drop_data s i hlt
    rw [PLegendPairs.secateurlaw30_blank.l0, if_pos (by omega), if_pos (by omega), bt_nat s i hlt]
    have e32 : (32 : UInt8).toNat = 32 := rfl
    by_cases h32 : s[i] = 32
    · have hm : (32 : UInt8) ∈ bl s := List.mem_of_mem_drop (i := i) (by rw [hdr, h32]; exact List.mem_cons_self)
      rw [if_pos (by rw [h32]; rfl), decide_eq_true hm]
    · have hne : ¬ ((s[i].toNat : Int) = 32) := fun h => h32 (UInt8.toNat_inj.1 (by omega))
      have hw : wrap64 ((i : Int) + 1) = ((i + 1 : Nat) : Int) := by unfold wrap64; omega
      have ih := blank_loop s hs d k (i + 1) (by omega) (by omega) (by omega) (by
        rw [List.take_succ_eq_append_getElem (by rw [bl_len]; exact hlt), List.mem_append]
        rintro (h | h)
        · exact hn h
        · rw [List.mem_singleton] at h
          have e : (bl s)[i]'(by rw [bl_len]; exact hlt) = s[i] := get_data s i hlt
          rw [e] at h
          exact h32 h.symm)
      rw [if_neg hne, hw, ih]
theorem blank_call (s : ByteArray) (b : Bool) (W : World) (hs : s.size ≤ 1048576) (hb : decide ((32 : UInt8) ∈ bl s) = b) : Calls Tryz.prog 11 #[.string s] W fun e w' => e = .returned (.bool b) ∧ Below W.heap.size W w' :=
  (PLegendPairs.secateurlaw30_blank.calls (s.size + 1) s b W (by rw [← hb]; exact blank_loop s hs s.size (s.size + 1) 0 (by omega) (by omega) (by omega) (by simp))).mono fun e w' ⟨he, hd⟩ => ⟨he, by first | exact hd.below | exact hd⟩
theorem not_blank {l : List UInt8} (h : (32 : UInt8) ∉ l) : blank l = false := by
  unfold blank
  rw [List.any_eq_false]
  intro x hx he
  exact h ((eq_of_beq he) ▸ hx)
theorem read_line3 (w o n : List UInt8) (hw : w = wClass ∨ w = wField) (ho : (32 : UInt8) ∉ o) (hn : (32 : UInt8) ∉ n) : readS (lineS w (o, n)) = (w, (o, n), true) := by
  have hwb : blank w = false := by rcases hw with h | h <;> (rw [h]; decide)
  unfold lineS readS
  rw [if_pos hw, fields_line [w, o, n] (by simp) (by
    intro x hx
    simp only [List.mem_cons, List.not_mem_nil, or_false] at hx
    rcases hx with rfl | rfl | rfl
    · exact hwb
    · exact not_blank ho
    · exact not_blank hn)]
  unfold readF
  simp only [if_pos hw]
theorem read_line4 (o d n : List UInt8) (ho : (32 : UInt8) ∉ o) (hd : (32 : UInt8) ∉ d) (hn : (32 : UInt8) ∉ n) (h40 : (40 : UInt8) ∉ o) : readS (lineS wMethod (o ++ 40 :: d, n)) = (wMethod, (o ++ 40 :: d, n), true) := by
  have n1 : ¬ (wMethod = wClass ∨ wMethod = wField) := by decide
  have hk := key_at o d h40
  have hd2 : (32 : UInt8) ∉ (40 :: d : List UInt8) := fun h => by
    rcases List.mem_cons.1 h with h | h
    · exact absurd h (by decide)
    · exact hd h
  unfold lineS readS
  rw [if_neg n1, if_pos rfl]
  show readF (fieldsL (lineL [wMethod, keyN (o ++ 40 :: d), keyD (o ++ 40 :: d), n])) = _
  rw [hk.1, hk.2, fields_line [wMethod, o, 40 :: d, n] (by simp) (by
    intro x hx
    simp only [List.mem_cons, List.not_mem_nil, or_false] at hx
    rcases hx with rfl | rfl | rfl | rfl
    · decide
    · exact not_blank ho
    · exact not_blank hd2
    · exact not_blank hn)]
  have hc : wMethod = wMethod ∧ (40 : UInt8) ∉ o ∧ (40 :: d : List UInt8).head? = some 40 := ⟨rfl, h40, rfl⟩
  show (if wMethod = wMethod ∧ (40 : UInt8) ∉ o ∧ (40 :: d : List UInt8).head? = some 40 then (wMethod, (o ++ 40 :: d, n), true) else ([], ([], []), false)) = _
  rw [if_pos hc]
theorem line_nice (wh old new : ByteArray) (ho : old.size ≤ 1048576) (hn : new.size ≤ 1048576) (W : World) (hM : MaxL W) : Calls Tryz.prog 9 #[.string wh, .agg #[.string old, .string new]] W fun e w' => e = .returned (.string (lb (lineS (bl wh) (bl old, bl new)))) ∧ Below W.heap.size W w' :=
  legend_Line.calls wh old new _ W hM (by unfold legend_Line.f; rw [if_pos ⟨ho, hn⟩])
theorem read_nice (s : ByteArray) (hs : s.size ≤ 1048576) (W : World) (hM : MaxL W) : Calls Tryz.prog 7 #[.string s] W fun e w' => e = .returned (.tuple #[.string (legOut (readS (bl s))).1, .agg #[.string (legOut (readS (bl s))).2.1, .string (legOut (readS (bl s))).2.2.1], .bool (legOut (readS (bl s))).2.2.2]) ∧ Below W.heap.size W w' :=
  legend_Read.calls s _ _ _ _ W hM (by unfold legend_Read.f; rw [if_pos hs])
set_option maxHeartbeats 16000000 in
set_option maxRecDepth 20000 in
theorem pairs_e0 (p0 p1 desc : ByteArray) (which : Int) (w : World) (hM : MaxL w) (q0 : 300 < p0.size) : Calls Tryz.prog 4 #[.agg #[.string p0, .string p1], .string desc, .int .u8 which] w fun e w' => e = .returned (.bool true) ∧ Below w.heap.size w w' := by
  have HB1 := Aside0.mk (below_alloc (Below.refl w.heap.size w) (Obj.cells #[.string p0, .string p1] 23))
  have HM1 := Aside0.mk (hM.below (below_alloc (Below.refl w.heap.size w) (Obj.cells #[.string p0, .string p1] 23)))
  have HX1 := Aside0.mk (World.alloc_heap_new w (Obj.cells #[.string p0, .string p1] 23))
  have HSu := Aside0.mk (fun W h => legend_sure W h)
  have h0a : decide ((p0.size : Int) > 300) = true := decide_eq_true (by omega)
  have h0b : decide ((300 : Int) < (p0.size : Int)) = true := decide_eq_true (by omega)
  have h0c : decide (300 < p0.size) = true := decide_eq_true (by omega)
  clear hM
  go_enter Tryz.func4, Tryz.ntmps4
  go_wp2_with fail
  refine (HSu.out _ HM1.out).mono ?_
  rintro e wz ⟨rfl, hb⟩
  have HBz := Aside0.mk (below_step HB1.out hb)
  clear hb
  go_wp2_with fail
  exact bodyPost_ret (results_tmp rfl _ _ _) rfl ⟨rfl, HBz.out⟩
set_option maxHeartbeats 16000000 in
set_option maxRecDepth 20000 in
theorem pairs_e1 (p0 p1 desc : ByteArray) (which : Int) (w : World) (hM : MaxL w) (q0 : p0.size ≤ 300) (q1 : 300 < p1.size) : Calls Tryz.prog 4 #[.agg #[.string p0, .string p1], .string desc, .int .u8 which] w fun e w' => e = .returned (.bool true) ∧ Below w.heap.size w w' := by
  have HB1 := Aside0.mk (below_alloc (Below.refl w.heap.size w) (Obj.cells #[.string p0, .string p1] 23))
  have HM1 := Aside0.mk (hM.below (below_alloc (Below.refl w.heap.size w) (Obj.cells #[.string p0, .string p1] 23)))
  have HX1 := Aside0.mk (World.alloc_heap_new w (Obj.cells #[.string p0, .string p1] 23))
  have HSu := Aside0.mk (fun W h => legend_sure W h)
  have h0a : decide ((p0.size : Int) > 300) = false := decide_eq_false (by omega)
  have h0b : decide ((300 : Int) < (p0.size : Int)) = false := decide_eq_false (by omega)
  have h0c : decide (300 < p0.size) = false := decide_eq_false (by omega)
  have h1a : decide ((p1.size : Int) > 300) = true := decide_eq_true (by omega)
  have h1b : decide ((300 : Int) < (p1.size : Int)) = true := decide_eq_true (by omega)
  have h1c : decide (300 < p1.size) = true := decide_eq_true (by omega)
  clear hM
  go_enter Tryz.func4, Tryz.ntmps4
  go_wp2_with fail
  refine (HSu.out _ HM1.out).mono ?_
  rintro e wz ⟨rfl, hb⟩
  have HBz := Aside0.mk (below_step HB1.out hb)
  clear hb
  go_wp2_with fail
  exact bodyPost_ret (results_tmp rfl _ _ _) rfl ⟨rfl, HBz.out⟩
set_option maxHeartbeats 16000000 in
set_option maxRecDepth 20000 in
theorem pairs_e2 (p0 p1 desc : ByteArray) (which : Int) (w : World) (hM : MaxL w) (q0 : p0.size ≤ 300) (q1 : p1.size ≤ 300) (q2 : 300 < desc.size) : Calls Tryz.prog 4 #[.agg #[.string p0, .string p1], .string desc, .int .u8 which] w fun e w' => e = .returned (.bool true) ∧ Below w.heap.size w w' := by
  have HB1 := Aside0.mk (below_alloc (Below.refl w.heap.size w) (Obj.cells #[.string p0, .string p1] 23))
  have HM1 := Aside0.mk (hM.below (below_alloc (Below.refl w.heap.size w) (Obj.cells #[.string p0, .string p1] 23)))
  have HX1 := Aside0.mk (World.alloc_heap_new w (Obj.cells #[.string p0, .string p1] 23))
  have HSu := Aside0.mk (fun W h => legend_sure W h)
  have h0a : decide ((p0.size : Int) > 300) = false := decide_eq_false (by omega)
  have h0b : decide ((300 : Int) < (p0.size : Int)) = false := decide_eq_false (by omega)
  have h0c : decide (300 < p0.size) = false := decide_eq_false (by omega)
  have h1a : decide ((p1.size : Int) > 300) = false := decide_eq_false (by omega)
  have h1b : decide ((300 : Int) < (p1.size : Int)) = false := decide_eq_false (by omega)
  have h1c : decide (300 < p1.size) = false := decide_eq_false (by omega)
  have h2a : decide ((desc.size : Int) > 300) = true := decide_eq_true (by omega)
  have h2b : decide ((300 : Int) < (desc.size : Int)) = true := decide_eq_true (by omega)
  have h2c : decide (300 < desc.size) = true := decide_eq_true (by omega)
  clear hM
  go_enter Tryz.func4, Tryz.ntmps4
  go_wp2_with fail
  refine (HSu.out _ HM1.out).mono ?_
  rintro e wz ⟨rfl, hb⟩
  have HBz := Aside0.mk (below_step HB1.out hb)
  clear hb
  go_wp2_with fail
  exact bodyPost_ret (results_tmp rfl _ _ _) rfl ⟨rfl, HBz.out⟩
set_option maxHeartbeats 16000000 in
set_option maxRecDepth 20000 in
theorem pairs_b0 (p0 p1 desc : ByteArray) (which : Int) (w : World) (hM : MaxL w) (q0 : p0.size ≤ 300) (q1 : p1.size ≤ 300) (q2 : desc.size ≤ 300) (n0 : decide ((32 : UInt8) ∈ bl p0) = true) : Calls Tryz.prog 4 #[.agg #[.string p0, .string p1], .string desc, .int .u8 which] w fun e w' => e = .returned (.bool true) ∧ Below w.heap.size w w' := by
  have HB1 := Aside0.mk (below_alloc (Below.refl w.heap.size w) (Obj.cells #[.string p0, .string p1] 23))
  have HM1 := Aside0.mk (hM.below (below_alloc (Below.refl w.heap.size w) (Obj.cells #[.string p0, .string p1] 23)))
  have HX1 := Aside0.mk (World.alloc_heap_new w (Obj.cells #[.string p0, .string p1] 23))
  have HSu := Aside0.mk (fun W h => legend_sure W h)
  have h0a : decide ((p0.size : Int) > 300) = false := decide_eq_false (by omega)
  have h0b : decide ((300 : Int) < (p0.size : Int)) = false := decide_eq_false (by omega)
  have h0c : decide (300 < p0.size) = false := decide_eq_false (by omega)
  have h1a : decide ((p1.size : Int) > 300) = false := decide_eq_false (by omega)
  have h1b : decide ((300 : Int) < (p1.size : Int)) = false := decide_eq_false (by omega)
  have h1c : decide (300 < p1.size) = false := decide_eq_false (by omega)
  have h2a : decide ((desc.size : Int) > 300) = false := decide_eq_false (by omega)
  have h2b : decide ((300 : Int) < (desc.size : Int)) = false := decide_eq_false (by omega)
  have h2c : decide (300 < desc.size) = false := decide_eq_false (by omega)
  have HK0 := Aside0.mk (fun W => blank_call p0 true W (by omega) n0)
  clear hM n0
  go_enter Tryz.func4, Tryz.ntmps4
  go_wp2_with fail
  refine (HK0.out _).mono ?_
  rintro e w2 ⟨rfl, hd⟩
  have HB2 := Aside0.mk (below_step HB1.out hd)
  have HM2 := Aside0.mk (HM1.out.below hd)
  have HX2 := Aside0.mk (blk_below HX1.out hd)
  have c0_2 : w2.cell? ⟨w.heap.size, 0, none⟩ = some (.string p0) := blk_cell HX2.out 0
  have c1_2 : w2.cell? ⟨w.heap.size, 1, none⟩ = some (.string p1) := blk_cell HX2.out 1
  have hg_2 := blk_lt HX2.out
  clear hd
  go_wp2_with fail
  refine (HSu.out _ HM2.out).mono ?_
  rintro e wz ⟨rfl, hb⟩
  have HBz := Aside0.mk (below_step HB2.out hb)
  clear hb
  go_wp2_with fail
  exact bodyPost_ret (results_tmp rfl _ _ _) rfl ⟨rfl, HBz.out⟩
set_option maxHeartbeats 16000000 in
set_option maxRecDepth 20000 in
theorem pairs_b1 (p0 p1 desc : ByteArray) (which : Int) (w : World) (hM : MaxL w) (q0 : p0.size ≤ 300) (q1 : p1.size ≤ 300) (q2 : desc.size ≤ 300) (n0 : decide ((32 : UInt8) ∈ bl p0) = false) (n1 : decide ((32 : UInt8) ∈ bl p1) = true) : Calls Tryz.prog 4 #[.agg #[.string p0, .string p1], .string desc, .int .u8 which] w fun e w' => e = .returned (.bool true) ∧ Below w.heap.size w w' := by
  have HB1 := Aside0.mk (below_alloc (Below.refl w.heap.size w) (Obj.cells #[.string p0, .string p1] 23))
  have HM1 := Aside0.mk (hM.below (below_alloc (Below.refl w.heap.size w) (Obj.cells #[.string p0, .string p1] 23)))
  have HX1 := Aside0.mk (World.alloc_heap_new w (Obj.cells #[.string p0, .string p1] 23))
  have HSu := Aside0.mk (fun W h => legend_sure W h)
  have h0a : decide ((p0.size : Int) > 300) = false := decide_eq_false (by omega)
  have h0b : decide ((300 : Int) < (p0.size : Int)) = false := decide_eq_false (by omega)
  have h0c : decide (300 < p0.size) = false := decide_eq_false (by omega)
  have h1a : decide ((p1.size : Int) > 300) = false := decide_eq_false (by omega)
  have h1b : decide ((300 : Int) < (p1.size : Int)) = false := decide_eq_false (by omega)
  have h1c : decide (300 < p1.size) = false := decide_eq_false (by omega)
  have h2a : decide ((desc.size : Int) > 300) = false := decide_eq_false (by omega)
  have h2b : decide ((300 : Int) < (desc.size : Int)) = false := decide_eq_false (by omega)
  have h2c : decide (300 < desc.size) = false := decide_eq_false (by omega)
  have HK0 := Aside0.mk (fun W => blank_call p0 false W (by omega) n0)
  have HK1 := Aside0.mk (fun W => blank_call p1 true W (by omega) n1)
  clear hM n0 n1
  go_enter Tryz.func4, Tryz.ntmps4
  go_wp2_with fail
  refine (HK0.out _).mono ?_
  rintro e w2 ⟨rfl, hd⟩
  have HB2 := Aside0.mk (below_step HB1.out hd)
  have HM2 := Aside0.mk (HM1.out.below hd)
  have HX2 := Aside0.mk (blk_below HX1.out hd)
  have c0_2 : w2.cell? ⟨w.heap.size, 0, none⟩ = some (.string p0) := blk_cell HX2.out 0
  have c1_2 : w2.cell? ⟨w.heap.size, 1, none⟩ = some (.string p1) := blk_cell HX2.out 1
  have hg_2 := blk_lt HX2.out
  clear hd
  go_wp2_with fail
  refine (HK1.out _).mono ?_
  rintro e w3 ⟨rfl, hd⟩
  have HB3 := Aside0.mk (below_step HB2.out hd)
  have HM3 := Aside0.mk (HM2.out.below hd)
  have HX3 := Aside0.mk (blk_below HX2.out hd)
  have c0_3 : w3.cell? ⟨w.heap.size, 0, none⟩ = some (.string p0) := blk_cell HX3.out 0
  have c1_3 : w3.cell? ⟨w.heap.size, 1, none⟩ = some (.string p1) := blk_cell HX3.out 1
  have hg_3 := blk_lt HX3.out
  clear hd c0_2 c1_2 hg_2
  go_wp2_with fail
  refine (HSu.out _ HM3.out).mono ?_
  rintro e wz ⟨rfl, hb⟩
  have HBz := Aside0.mk (below_step HB3.out hb)
  clear hb
  go_wp2_with fail
  exact bodyPost_ret (results_tmp rfl _ _ _) rfl ⟨rfl, HBz.out⟩
set_option maxHeartbeats 16000000 in
set_option maxRecDepth 20000 in
theorem pairs_b2 (p0 p1 desc : ByteArray) (which : Int) (w : World) (hM : MaxL w) (q0 : p0.size ≤ 300) (q1 : p1.size ≤ 300) (q2 : desc.size ≤ 300) (n0 : decide ((32 : UInt8) ∈ bl p0) = false) (n1 : decide ((32 : UInt8) ∈ bl p1) = false) (n2 : decide ((32 : UInt8) ∈ bl desc) = true) : Calls Tryz.prog 4 #[.agg #[.string p0, .string p1], .string desc, .int .u8 which] w fun e w' => e = .returned (.bool true) ∧ Below w.heap.size w w' := by
  have HB1 := Aside0.mk (below_alloc (Below.refl w.heap.size w) (Obj.cells #[.string p0, .string p1] 23))
  have HM1 := Aside0.mk (hM.below (below_alloc (Below.refl w.heap.size w) (Obj.cells #[.string p0, .string p1] 23)))
  have HX1 := Aside0.mk (World.alloc_heap_new w (Obj.cells #[.string p0, .string p1] 23))
  have HSu := Aside0.mk (fun W h => legend_sure W h)
  have h0a : decide ((p0.size : Int) > 300) = false := decide_eq_false (by omega)
  have h0b : decide ((300 : Int) < (p0.size : Int)) = false := decide_eq_false (by omega)
  have h0c : decide (300 < p0.size) = false := decide_eq_false (by omega)
  have h1a : decide ((p1.size : Int) > 300) = false := decide_eq_false (by omega)
  have h1b : decide ((300 : Int) < (p1.size : Int)) = false := decide_eq_false (by omega)
  have h1c : decide (300 < p1.size) = false := decide_eq_false (by omega)
  have h2a : decide ((desc.size : Int) > 300) = false := decide_eq_false (by omega)
  have h2b : decide ((300 : Int) < (desc.size : Int)) = false := decide_eq_false (by omega)
  have h2c : decide (300 < desc.size) = false := decide_eq_false (by omega)
  have HK0 := Aside0.mk (fun W => blank_call p0 false W (by omega) n0)
  have HK1 := Aside0.mk (fun W => blank_call p1 false W (by omega) n1)
  have HK2 := Aside0.mk (fun W => blank_call desc true W (by omega) n2)
  clear hM n0 n1 n2
  go_enter Tryz.func4, Tryz.ntmps4
  go_wp2_with fail
  refine (HK0.out _).mono ?_
  rintro e w2 ⟨rfl, hd⟩
  have HB2 := Aside0.mk (below_step HB1.out hd)
  have HM2 := Aside0.mk (HM1.out.below hd)
  have HX2 := Aside0.mk (blk_below HX1.out hd)
  have c0_2 : w2.cell? ⟨w.heap.size, 0, none⟩ = some (.string p0) := blk_cell HX2.out 0
  have c1_2 : w2.cell? ⟨w.heap.size, 1, none⟩ = some (.string p1) := blk_cell HX2.out 1
  have hg_2 := blk_lt HX2.out
  clear hd
  go_wp2_with fail
  refine (HK1.out _).mono ?_
  rintro e w3 ⟨rfl, hd⟩
  have HB3 := Aside0.mk (below_step HB2.out hd)
  have HM3 := Aside0.mk (HM2.out.below hd)
  have HX3 := Aside0.mk (blk_below HX2.out hd)
  have c0_3 : w3.cell? ⟨w.heap.size, 0, none⟩ = some (.string p0) := blk_cell HX3.out 0
  have c1_3 : w3.cell? ⟨w.heap.size, 1, none⟩ = some (.string p1) := blk_cell HX3.out 1
  have hg_3 := blk_lt HX3.out
  clear hd c0_2 c1_2 hg_2
  go_wp2_with fail
  refine (HK2.out _).mono ?_
  rintro e w4 ⟨rfl, hd⟩
  have HB4 := Aside0.mk (below_step HB3.out hd)
  have HM4 := Aside0.mk (HM3.out.below hd)
  have HX4 := Aside0.mk (blk_below HX3.out hd)
  have c0_4 : w4.cell? ⟨w.heap.size, 0, none⟩ = some (.string p0) := blk_cell HX4.out 0
  have c1_4 : w4.cell? ⟨w.heap.size, 1, none⟩ = some (.string p1) := blk_cell HX4.out 1
  have hg_4 := blk_lt HX4.out
  clear hd c0_3 c1_3 hg_3
  go_wp2_with fail
  refine (HSu.out _ HM4.out).mono ?_
  rintro e wz ⟨rfl, hb⟩
  have HBz := Aside0.mk (below_step HB4.out hb)
  clear hb
  go_wp2_with fail
  exact bodyPost_ret (results_tmp rfl _ _ _) rfl ⟨rfl, HBz.out⟩
set_option maxHeartbeats 16000000 in
set_option maxRecDepth 20000 in
theorem pairs_w0 (p0 p1 desc : ByteArray) (which : Int) (w : World) (hM : MaxL w) (q0 : p0.size ≤ 300) (q1 : p1.size ≤ 300) (q2 : desc.size ≤ 300) (n0 : decide ((32 : UInt8) ∈ bl p0) = false) (n1 : decide ((32 : UInt8) ∈ bl p1) = false) (n2 : decide ((32 : UInt8) ∈ bl desc) = false) (hr : Int.tmod which 3 = 0) : Calls Tryz.prog 4 #[.agg #[.string p0, .string p1], .string desc, .int .u8 which] w fun e w' => e = .returned (.bool true) ∧ Below w.heap.size w w' := by
  have HB1 := Aside0.mk (below_alloc (Below.refl w.heap.size w) (Obj.cells #[.string p0, .string p1] 23))
  have HM1 := Aside0.mk (hM.below (below_alloc (Below.refl w.heap.size w) (Obj.cells #[.string p0, .string p1] 23)))
  have HX1 := Aside0.mk (World.alloc_heap_new w (Obj.cells #[.string p0, .string p1] 23))
  have HSu := Aside0.mk (fun W h => legend_sure W h)
  have h0a : decide ((p0.size : Int) > 300) = false := decide_eq_false (by omega)
  have h0b : decide ((300 : Int) < (p0.size : Int)) = false := decide_eq_false (by omega)
  have h0c : decide (300 < p0.size) = false := decide_eq_false (by omega)
  have h1a : decide ((p1.size : Int) > 300) = false := decide_eq_false (by omega)
  have h1b : decide ((300 : Int) < (p1.size : Int)) = false := decide_eq_false (by omega)
  have h1c : decide (300 < p1.size) = false := decide_eq_false (by omega)
  have h2a : decide ((desc.size : Int) > 300) = false := decide_eq_false (by omega)
  have h2b : decide ((300 : Int) < (desc.size : Int)) = false := decide_eq_false (by omega)
  have h2c : decide (300 < desc.size) = false := decide_eq_false (by omega)
  have HLi := Aside0.mk (fun W h => line_nice ⟨#[99, 108, 97, 115, 115]⟩ p0 p1 (by omega) (by omega) W h)
  have hrd : readS (lineS wClass (bl p0, bl p1)) = (wClass, (bl p0, bl p1), true) := read_line3 wClass (bl p0) (bl p1) (.inl rfl) (of_decide_eq_false n0) (of_decide_eq_false n1)
  have hll : (lb (lineS wClass (bl p0, bl p1))).size ≤ 1048576 := by have := lineS_len wClass (bl p0, bl p1); simp only [bl_len] at this; rw [lb_size]; omega
  have HRe := Aside0.mk (fun W h => read_nice (lb (lineS wClass (bl p0, bl p1))) hll W h)
  rw [bl_lb, hrd] at HRe
  simp only [legOut, lb_bl] at HRe
  have elb : lb wClass = ⟨#[99, 108, 97, 115, 115]⟩ := rfl
  rw [elb] at HRe
  clear hrd hll elb
  have HK0 := Aside0.mk (fun W => blank_call p0 false W (by omega) n0)
  have HK1 := Aside0.mk (fun W => blank_call p1 false W (by omega) n1)
  have HK2 := Aside0.mk (fun W => blank_call desc false W (by omega) n2)
  clear hM n0 n1 n2
  go_enter Tryz.func4, Tryz.ntmps4
  go_wp2_with fail
  refine (HK0.out _).mono ?_
  rintro e w2 ⟨rfl, hd⟩
  have HB2 := Aside0.mk (below_step HB1.out hd)
  have HM2 := Aside0.mk (HM1.out.below hd)
  have HX2 := Aside0.mk (blk_below HX1.out hd)
  have c0_2 : w2.cell? ⟨w.heap.size, 0, none⟩ = some (.string p0) := blk_cell HX2.out 0
  have c1_2 : w2.cell? ⟨w.heap.size, 1, none⟩ = some (.string p1) := blk_cell HX2.out 1
  have hg_2 := blk_lt HX2.out
  clear hd
  go_wp2_with fail
  refine (HK1.out _).mono ?_
  rintro e w3 ⟨rfl, hd⟩
  have HB3 := Aside0.mk (below_step HB2.out hd)
  have HM3 := Aside0.mk (HM2.out.below hd)
  have HX3 := Aside0.mk (blk_below HX2.out hd)
  have c0_3 : w3.cell? ⟨w.heap.size, 0, none⟩ = some (.string p0) := blk_cell HX3.out 0
  have c1_3 : w3.cell? ⟨w.heap.size, 1, none⟩ = some (.string p1) := blk_cell HX3.out 1
  have hg_3 := blk_lt HX3.out
  clear hd c0_2 c1_2 hg_2
  go_wp2_with fail
  refine (HK2.out _).mono ?_
  rintro e w4 ⟨rfl, hd⟩
  have HB4 := Aside0.mk (below_step HB3.out hd)
  have HM4 := Aside0.mk (HM3.out.below hd)
  have HX4 := Aside0.mk (blk_below HX3.out hd)
  have c0_4 : w4.cell? ⟨w.heap.size, 0, none⟩ = some (.string p0) := blk_cell HX4.out 0
  have c1_4 : w4.cell? ⟨w.heap.size, 1, none⟩ = some (.string p1) := blk_cell HX4.out 1
  have hg_4 := blk_lt HX4.out
  clear hd c0_3 c1_3 hg_3
  go_wp2_with fail
  have hz5 := below_alloc (Below.refl w4.heap.size w4) (Obj.cells #[.string ⟨#[99, 108, 97, 115, 115]⟩, .string ⟨#[102, 105, 101, 108, 100]⟩, .string ⟨#[109, 101, 116, 104, 111, 100]⟩] 30)
  have HM5 := Aside0.mk (HM4.out.below hz5)
  have HB5 := Aside0.mk (below_step HB4.out hz5)
  have HX5 := Aside0.mk (blk_below HX4.out hz5)
  clear hz5
  refine (HLi.out _ HM5.out).mono ?_
  rintro e x1 ⟨rfl, hb⟩
  have HMa := Aside0.mk (HM5.out.below hb)
  have HBa := Aside0.mk (below_step HB5.out hb)
  have HXa := Aside0.mk (blk_below HX5.out hb)
  clear hb
  go_wp2_with fail
  refine (HRe.out _ HMa.out).mono ?_
  rintro e x2 ⟨rfl, hb⟩
  have HMb := Aside0.mk (HMa.out.below hb)
  have HBb := Aside0.mk (below_step HBa.out hb)
  have HXb := Aside0.mk (blk_below HXa.out hb)
  have hz := below_alloc (Below.refl x2.heap.size x2) (Obj.cells #[.string p0, .string p1] 23)
  have HMc := Aside0.mk (HMb.out.below hz)
  have HBc := Aside0.mk (below_step HBb.out hz)
  have HXc := Aside0.mk (blk_below HXb.out hz)
  have HY := Aside0.mk (World.alloc_heap_new x2 (Obj.cells #[.string p0, .string p1] 23))
  clear hb hz
  go_wp2_with fail
  refine (HSu.out _ HMc.out).mono ?_
  rintro e x3 ⟨rfl, hb⟩
  have HBd := Aside0.mk (below_step HBc.out hb)
  have HXd := blk_below HXc.out hb
  have HYd := blk_below HY.out hb
  obtain ⟨y0, y1⟩ : x3.cell? ⟨x2.heap.size, 0, none⟩ = some (.string p0) ∧ x3.cell? ⟨x2.heap.size, 1, none⟩ = some (.string p1) := ⟨blk_cell HYd 0, blk_cell HYd 1⟩
  obtain ⟨z0, z1⟩ : x3.cell? ⟨w.heap.size, 0, none⟩ = some (.string p0) ∧ x3.cell? ⟨w.heap.size, 1, none⟩ = some (.string p1) := ⟨blk_cell HXd 0, blk_cell HXd 1⟩
  clear hb HXd HYd
  go_wp2_with fail
  refine bodyPost_ret (results_tmp rfl _ _ _) rfl ⟨?_, HBd.out⟩
  first | rfl | (simp; done)
set_option maxHeartbeats 16000000 in
set_option maxRecDepth 20000 in
theorem pairs_w1 (p0 p1 desc : ByteArray) (which : Int) (w : World) (hM : MaxL w) (q0 : p0.size ≤ 300) (q1 : p1.size ≤ 300) (q2 : desc.size ≤ 300) (n0 : decide ((32 : UInt8) ∈ bl p0) = false) (n1 : decide ((32 : UInt8) ∈ bl p1) = false) (n2 : decide ((32 : UInt8) ∈ bl desc) = false) (hr : Int.tmod which 3 = 1) : Calls Tryz.prog 4 #[.agg #[.string p0, .string p1], .string desc, .int .u8 which] w fun e w' => e = .returned (.bool true) ∧ Below w.heap.size w w' := by
  have HB1 := Aside0.mk (below_alloc (Below.refl w.heap.size w) (Obj.cells #[.string p0, .string p1] 23))
  have HM1 := Aside0.mk (hM.below (below_alloc (Below.refl w.heap.size w) (Obj.cells #[.string p0, .string p1] 23)))
  have HX1 := Aside0.mk (World.alloc_heap_new w (Obj.cells #[.string p0, .string p1] 23))
  have HSu := Aside0.mk (fun W h => legend_sure W h)
  have h0a : decide ((p0.size : Int) > 300) = false := decide_eq_false (by omega)
  have h0b : decide ((300 : Int) < (p0.size : Int)) = false := decide_eq_false (by omega)
  have h0c : decide (300 < p0.size) = false := decide_eq_false (by omega)
  have h1a : decide ((p1.size : Int) > 300) = false := decide_eq_false (by omega)
  have h1b : decide ((300 : Int) < (p1.size : Int)) = false := decide_eq_false (by omega)
  have h1c : decide (300 < p1.size) = false := decide_eq_false (by omega)
  have h2a : decide ((desc.size : Int) > 300) = false := decide_eq_false (by omega)
  have h2b : decide ((300 : Int) < (desc.size : Int)) = false := decide_eq_false (by omega)
  have h2c : decide (300 < desc.size) = false := decide_eq_false (by omega)
  have HLi := Aside0.mk (fun W h => line_nice ⟨#[102, 105, 101, 108, 100]⟩ p0 p1 (by omega) (by omega) W h)
  have hrd : readS (lineS wField (bl p0, bl p1)) = (wField, (bl p0, bl p1), true) := read_line3 wField (bl p0) (bl p1) (.inr rfl) (of_decide_eq_false n0) (of_decide_eq_false n1)
  have hll : (lb (lineS wField (bl p0, bl p1))).size ≤ 1048576 := by have := lineS_len wField (bl p0, bl p1); simp only [bl_len] at this; rw [lb_size]; omega
  have HRe := Aside0.mk (fun W h => read_nice (lb (lineS wField (bl p0, bl p1))) hll W h)
  rw [bl_lb, hrd] at HRe
  simp only [legOut, lb_bl] at HRe
  have elb : lb wField = ⟨#[102, 105, 101, 108, 100]⟩ := rfl
  rw [elb] at HRe
  clear hrd hll elb
  have HK0 := Aside0.mk (fun W => blank_call p0 false W (by omega) n0)
  have HK1 := Aside0.mk (fun W => blank_call p1 false W (by omega) n1)
  have HK2 := Aside0.mk (fun W => blank_call desc false W (by omega) n2)
  clear hM n0 n1 n2
  go_enter Tryz.func4, Tryz.ntmps4
  go_wp2_with fail
  refine (HK0.out _).mono ?_
  rintro e w2 ⟨rfl, hd⟩
  have HB2 := Aside0.mk (below_step HB1.out hd)
  have HM2 := Aside0.mk (HM1.out.below hd)
  have HX2 := Aside0.mk (blk_below HX1.out hd)
  have c0_2 : w2.cell? ⟨w.heap.size, 0, none⟩ = some (.string p0) := blk_cell HX2.out 0
  have c1_2 : w2.cell? ⟨w.heap.size, 1, none⟩ = some (.string p1) := blk_cell HX2.out 1
  have hg_2 := blk_lt HX2.out
  clear hd
  go_wp2_with fail
  refine (HK1.out _).mono ?_
  rintro e w3 ⟨rfl, hd⟩
  have HB3 := Aside0.mk (below_step HB2.out hd)
  have HM3 := Aside0.mk (HM2.out.below hd)
  have HX3 := Aside0.mk (blk_below HX2.out hd)
  have c0_3 : w3.cell? ⟨w.heap.size, 0, none⟩ = some (.string p0) := blk_cell HX3.out 0
  have c1_3 : w3.cell? ⟨w.heap.size, 1, none⟩ = some (.string p1) := blk_cell HX3.out 1
  have hg_3 := blk_lt HX3.out
  clear hd c0_2 c1_2 hg_2
  go_wp2_with fail
  refine (HK2.out _).mono ?_
  rintro e w4 ⟨rfl, hd⟩
  have HB4 := Aside0.mk (below_step HB3.out hd)
  have HM4 := Aside0.mk (HM3.out.below hd)
  have HX4 := Aside0.mk (blk_below HX3.out hd)
  have c0_4 : w4.cell? ⟨w.heap.size, 0, none⟩ = some (.string p0) := blk_cell HX4.out 0
  have c1_4 : w4.cell? ⟨w.heap.size, 1, none⟩ = some (.string p1) := blk_cell HX4.out 1
  have hg_4 := blk_lt HX4.out
  clear hd c0_3 c1_3 hg_3
  go_wp2_with fail
  have hz5 := below_alloc (Below.refl w4.heap.size w4) (Obj.cells #[.string ⟨#[99, 108, 97, 115, 115]⟩, .string ⟨#[102, 105, 101, 108, 100]⟩, .string ⟨#[109, 101, 116, 104, 111, 100]⟩] 30)
  have HM5 := Aside0.mk (HM4.out.below hz5)
  have HB5 := Aside0.mk (below_step HB4.out hz5)
  have HX5 := Aside0.mk (blk_below HX4.out hz5)
  clear hz5
  refine (HLi.out _ HM5.out).mono ?_
  rintro e x1 ⟨rfl, hb⟩
  have HMa := Aside0.mk (HM5.out.below hb)
  have HBa := Aside0.mk (below_step HB5.out hb)
  have HXa := Aside0.mk (blk_below HX5.out hb)
  clear hb
  go_wp2_with fail
  refine (HRe.out _ HMa.out).mono ?_
  rintro e x2 ⟨rfl, hb⟩
  have HMb := Aside0.mk (HMa.out.below hb)
  have HBb := Aside0.mk (below_step HBa.out hb)
  have HXb := Aside0.mk (blk_below HXa.out hb)
  have hz := below_alloc (Below.refl x2.heap.size x2) (Obj.cells #[.string p0, .string p1] 23)
  have HMc := Aside0.mk (HMb.out.below hz)
  have HBc := Aside0.mk (below_step HBb.out hz)
  have HXc := Aside0.mk (blk_below HXb.out hz)
  have HY := Aside0.mk (World.alloc_heap_new x2 (Obj.cells #[.string p0, .string p1] 23))
  clear hb hz
  go_wp2_with fail
  refine (HSu.out _ HMc.out).mono ?_
  rintro e x3 ⟨rfl, hb⟩
  have HBd := Aside0.mk (below_step HBc.out hb)
  have HXd := blk_below HXc.out hb
  have HYd := blk_below HY.out hb
  obtain ⟨y0, y1⟩ : x3.cell? ⟨x2.heap.size, 0, none⟩ = some (.string p0) ∧ x3.cell? ⟨x2.heap.size, 1, none⟩ = some (.string p1) := ⟨blk_cell HYd 0, blk_cell HYd 1⟩
  obtain ⟨z0, z1⟩ : x3.cell? ⟨w.heap.size, 0, none⟩ = some (.string p0) ∧ x3.cell? ⟨w.heap.size, 1, none⟩ = some (.string p1) := ⟨blk_cell HXd 0, blk_cell HXd 1⟩
  clear hb HXd HYd
  go_wp2_with fail
  refine bodyPost_ret (results_tmp rfl _ _ _) rfl ⟨?_, HBd.out⟩
  first | rfl | (simp; done)
set_option maxHeartbeats 16000000 in
set_option maxRecDepth 20000 in
theorem pairs_w2 (p0 p1 desc : ByteArray) (which : Int) (w : World) (hM : MaxL w) (q0 : p0.size ≤ 300) (q1 : p1.size ≤ 300) (q2 : desc.size ≤ 300) (n0 : decide ((32 : UInt8) ∈ bl p0) = false) (n1 : decide ((32 : UInt8) ∈ bl p1) = false) (n2 : decide ((32 : UInt8) ∈ bl desc) = false) (hr : Int.tmod which 3 = 2) : Calls Tryz.prog 4 #[.agg #[.string p0, .string p1], .string desc, .int .u8 which] w fun e w' => e = .returned (.bool true) ∧ Below w.heap.size w w' := by
  have HB1 := Aside0.mk (below_alloc (Below.refl w.heap.size w) (Obj.cells #[.string p0, .string p1] 23))
  have HM1 := Aside0.mk (hM.below (below_alloc (Below.refl w.heap.size w) (Obj.cells #[.string p0, .string p1] 23)))
  have HX1 := Aside0.mk (World.alloc_heap_new w (Obj.cells #[.string p0, .string p1] 23))
  have HSu := Aside0.mk (fun W h => legend_sure W h)
  have h0a : decide ((p0.size : Int) > 300) = false := decide_eq_false (by omega)
  have h0b : decide ((300 : Int) < (p0.size : Int)) = false := decide_eq_false (by omega)
  have h0c : decide (300 < p0.size) = false := decide_eq_false (by omega)
  have h1a : decide ((p1.size : Int) > 300) = false := decide_eq_false (by omega)
  have h1b : decide ((300 : Int) < (p1.size : Int)) = false := decide_eq_false (by omega)
  have h1c : decide (300 < p1.size) = false := decide_eq_false (by omega)
  have h2a : decide ((desc.size : Int) > 300) = false := decide_eq_false (by omega)
  have h2b : decide ((300 : Int) < (desc.size : Int)) = false := decide_eq_false (by omega)
  have h2c : decide (300 < desc.size) = false := decide_eq_false (by omega)
  have HN := Aside0.mk (And.intro n0 (And.intro n1 n2))
  have HMw := Aside0.mk hM
  have HK0 := Aside0.mk (fun W => blank_call p0 false W (by omega) n0)
  have HK1 := Aside0.mk (fun W => blank_call p1 false W (by omega) n1)
  have HK2 := Aside0.mk (fun W => blank_call desc false W (by omega) n2)
  clear hM n0 n1 n2
  go_enter Tryz.func4, Tryz.ntmps4
  go_wp2_with fail
  refine (HK0.out _).mono ?_
  rintro e w2 ⟨rfl, hd⟩
  have HB2 := Aside0.mk (below_step HB1.out hd)
  have HM2 := Aside0.mk (HM1.out.below hd)
  have HX2 := Aside0.mk (blk_below HX1.out hd)
  have c0_2 : w2.cell? ⟨w.heap.size, 0, none⟩ = some (.string p0) := blk_cell HX2.out 0
  have c1_2 : w2.cell? ⟨w.heap.size, 1, none⟩ = some (.string p1) := blk_cell HX2.out 1
  have hg_2 := blk_lt HX2.out
  clear hd
  go_wp2_with fail
  refine (HK1.out _).mono ?_
  rintro e w3 ⟨rfl, hd⟩
  have HB3 := Aside0.mk (below_step HB2.out hd)
  have HM3 := Aside0.mk (HM2.out.below hd)
  have HX3 := Aside0.mk (blk_below HX2.out hd)
  have c0_3 : w3.cell? ⟨w.heap.size, 0, none⟩ = some (.string p0) := blk_cell HX3.out 0
  have c1_3 : w3.cell? ⟨w.heap.size, 1, none⟩ = some (.string p1) := blk_cell HX3.out 1
  have hg_3 := blk_lt HX3.out
  clear hd c0_2 c1_2 hg_2
  go_wp2_with fail
  refine (HK2.out _).mono ?_
  rintro e w4 ⟨rfl, hd⟩
  have HB4 := Aside0.mk (below_step HB3.out hd)
  have HM4 := Aside0.mk (HM3.out.below hd)
  have HX4 := Aside0.mk (blk_below HX3.out hd)
  have c0_4 : w4.cell? ⟨w.heap.size, 0, none⟩ = some (.string p0) := blk_cell HX4.out 0
  have c1_4 : w4.cell? ⟨w.heap.size, 1, none⟩ = some (.string p1) := blk_cell HX4.out 1
  have hg_4 := blk_lt HX4.out
  clear hd c0_3 c1_3 hg_3
  go_wp2_with fail
  have hz5 := below_alloc (Below.refl w4.heap.size w4) (Obj.cells #[.string ⟨#[99, 108, 97, 115, 115]⟩, .string ⟨#[102, 105, 101, 108, 100]⟩, .string ⟨#[109, 101, 116, 104, 111, 100]⟩] 30)
  have HM5 := Aside0.mk (HM4.out.below hz5)
  have HB5 := Aside0.mk (below_step HB4.out hz5)
  have HX5 := Aside0.mk (blk_below HX4.out hz5)
  have c0_5 : (w4.alloc (Obj.cells #[.string ⟨#[99, 108, 97, 115, 115]⟩, .string ⟨#[102, 105, 101, 108, 100]⟩, .string ⟨#[109, 101, 116, 104, 111, 100]⟩] 30)).cell? ⟨w.heap.size, 0, none⟩ = some (.string p0) := blk_cell HX5.out 0
  have c1_5 : (w4.alloc (Obj.cells #[.string ⟨#[99, 108, 97, 115, 115]⟩, .string ⟨#[102, 105, 101, 108, 100]⟩, .string ⟨#[109, 101, 116, 104, 111, 100]⟩] 30)).cell? ⟨w.heap.size, 1, none⟩ = some (.string p1) := blk_cell HX5.out 1
  have hg_5 := blk_lt HX5.out
  clear hz5 c0_4 c1_4 hg_4 hr h0a h0b h0c h1a h1b h1c h2a h2b h2c
  obtain ⟨w5, hw5⟩ : ∃ W, w4.alloc (Obj.cells #[.string ⟨#[99, 108, 97, 115, 115]⟩, .string ⟨#[102, 105, 101, 108, 100]⟩, .string ⟨#[109, 101, 116, 104, 111, 100]⟩] 30) = W := ⟨_, rfl⟩
  rw [hw5] at HM5 HB5 HX5 c0_5 c1_5 hg_5 ⊢
  clear hw5
  go_loopg [9] p0.size (fun kq v9 wr => ∃ i : Nat, v9 = .int .i64 (i : Int) ∧ i + kq = p0.size ∧ Aside0 ((40 : UInt8) ∉ (bl p0).take i) ∧ wr = w5)
  case atStart => exact ⟨0, rfl, by omega, ⟨by simp⟩, rfl⟩
  case round =>
    obtain ⟨i, rfl, hi, HA, rfl⟩ := hrel
    by_cases hlt : i < p0.size
    · have hd : decide ((i : Int) < (p0.size : Int)) = true := decide_eq_true (by omega)
      have p4 : (0 ≤ (i : Int)) = True := eq_true (by omega)
      have q4 : ((i : Int) < (p0.size : Int)) = True := eq_true (by omega)
      by_cases h40 : p0[i] = 40
      · have c5 : ((p0[i].toNat : Int) == 40) = true := beq_iff_eq.mpr (by rw [h40]; rfl)
        clear h40
        go_wp2_with fail
        refine (HSu.out _ HM5.out).mono ?_
        rintro e wz ⟨rfl, hb⟩
        have HBz := Aside0.mk (below_step HB5.out hb)
        clear hb
        go_wp2_with fail
        exact bodyPost_ret (results_tmp rfl _ _ _) rfl ⟨rfl, HBz.out⟩
      · have c5 : ((p0[i].toNat : Int) == 40) = false := beq_eq_false_iff_ne.mpr (by intro h; exact h40 (UInt8.toNat_inj.1 (by have e : (40 : UInt8).toNat = 40 := rfl; omega)))
        have HA2 : Aside0 ((40 : UInt8) ∉ (bl p0).take (i + 1)) := ⟨by
          rw [List.take_succ_eq_append_getElem (by rw [bl_len]; exact hlt), List.mem_append]
          rintro (h | h)
          · exact HA.out h
          · rw [List.mem_singleton] at h
            have e : (bl p0)[i]'(by rw [bl_len]; exact hlt) = p0[i] := get_data p0 i hlt
            rw [e] at h
            exact h40 h.symm⟩
        clear h40
        go_wp2_with fail
        go_roundg (gk - 1)
        case measure => omega
        case rel => exact ⟨i + 1, by simp, by omega, HA2, rfl⟩
    · have hd : decide ((i : Int) < (p0.size : Int)) = false := decide_eq_false (by omega)
      have hil : i = p0.size := by omega
      subst hil
      have H40 : Aside0 ((40 : UInt8) ∉ bl p0) := ⟨by have h := HA.out; rw [List.take_of_length_le (by rw [bl_len]; omega)] at h; exact h⟩
      clear HA hlt hi
      have f5 := blk_frozen HX5.out
      obtain ⟨po, hpo⟩ : ∃ po, p0 ++ (⟨#[40]⟩ ++ desc) = po := ⟨_, rfl⟩
      have hps : po.size ≤ 601 := by rw [← hpo]; simp only [ByteArray.size_append]; have : (⟨#[40]⟩ : ByteArray).size = 1 := rfl; omega
      have hbp : bl po = bl p0 ++ 40 :: bl desc := by rw [← hpo]; simp only [bl, ByteArray.data_append, Array.toList_append]; rfl
      have HM6 := Aside0.mk (HMw.out.below (below_set (v := .string po) (j := 0) HB5.out (Nat.le_refl _)))
      have HB6 := Aside0.mk (below_set (v := .string po) (j := 0) HB5.out (Nat.le_refl _))
      have HX6 := Aside0.mk (blk_put (cs' := #[.string po, .string p1]) HX5.out 0 (.string po) rfl)
      obtain ⟨n0, n1, n2⟩ := HN.out
      have HLi := Aside0.mk (fun W h => line_nice ⟨#[109, 101, 116, 104, 111, 100]⟩ po p1 (by omega) (by omega) W h)
      have hrd : readS (lineS wMethod (bl po, bl p1)) = (wMethod, (bl po, bl p1), true) := by rw [hbp]; exact read_line4 (bl p0) (bl desc) (bl p1) (of_decide_eq_false n0) (of_decide_eq_false n2) (of_decide_eq_false n1) H40.out
      have hll : (lb (lineS wMethod (bl po, bl p1))).size ≤ 1048576 := by have := lineS_len wMethod (bl po, bl p1); simp only [bl_len] at this; rw [lb_size]; omega
      have HRe := Aside0.mk (fun W h => read_nice (lb (lineS wMethod (bl po, bl p1))) hll W h)
      rw [bl_lb, hrd] at HRe
      simp only [legOut, lb_bl] at HRe
      have elb : lb wMethod = ⟨#[109, 101, 116, 104, 111, 100]⟩ := rfl
      rw [elb] at HRe
      have HPO := Aside0.mk hpo
      clear hrd hll elb hps hbp n0 n1 n2 hpo
      go_wp2_with fail
      rw [HPO.out]
      clear c0_5 c1_5 hg_5 f5
      refine (HLi.out _ HM6.out).mono ?_
      rintro e x1 ⟨rfl, hb⟩
      have HMa := Aside0.mk (HM6.out.below hb)
      have HBa := Aside0.mk (below_step HB6.out hb)
      have HXa := Aside0.mk (blk_below HX6.out hb)
      clear hb
      go_wp2_with fail
      refine (HRe.out _ HMa.out).mono ?_
      rintro e x2 ⟨rfl, hb⟩
      have HMb := Aside0.mk (HMa.out.below hb)
      have HBb := Aside0.mk (below_step HBa.out hb)
      have HXb := Aside0.mk (blk_below HXa.out hb)
      have hz := below_alloc (Below.refl x2.heap.size x2) (Obj.cells #[.string po, .string p1] 23)
      have HMc := Aside0.mk (HMb.out.below hz)
      have HBc := Aside0.mk (below_step HBb.out hz)
      have HXc := Aside0.mk (blk_below HXb.out hz)
      have HY := Aside0.mk (World.alloc_heap_new x2 (Obj.cells #[.string po, .string p1] 23))
      clear hb hz
      go_wp2_with fail
      refine (HSu.out _ HMc.out).mono ?_
      rintro e x3 ⟨rfl, hb⟩
      have HBd := Aside0.mk (below_step HBc.out hb)
      have HXd := blk_below HXc.out hb
      have HYd := blk_below HY.out hb
      obtain ⟨y0, y1⟩ : x3.cell? ⟨x2.heap.size, 0, none⟩ = some (.string po) ∧ x3.cell? ⟨x2.heap.size, 1, none⟩ = some (.string p1) := ⟨blk_cell HYd 0, blk_cell HYd 1⟩
      obtain ⟨z0, z1⟩ : x3.cell? ⟨w.heap.size, 0, none⟩ = some (.string po) ∧ x3.cell? ⟨w.heap.size, 1, none⟩ = some (.string p1) := ⟨blk_cell HXd 0, blk_cell HXd 1⟩
      clear hb HXd HYd
      go_wp2_with fail
      refine bodyPost_ret (results_tmp rfl _ _ _) rfl ⟨?_, HBd.out⟩
      first | rfl | (simp; done)
theorem LegendPairs_go (p0 p1 desc : ByteArray) (which : Int) (hw : 0 ≤ which) (w : World) (hM : MaxL w) : Calls Tryz.prog 4 #[.agg #[.string p0, .string p1], .string desc, .int .u8 which] w fun e w' => e = .returned (.bool true) ∧ Below w.heap.size w w' := by
  by_cases q0 : p0.size ≤ 300
  case neg => exact pairs_e0 p0 p1 desc which w hM (by omega)
  by_cases q1 : p1.size ≤ 300
  case neg => exact pairs_e1 p0 p1 desc which w hM q0 (by omega)
  by_cases q2 : desc.size ≤ 300
  case neg => exact pairs_e2 p0 p1 desc which w hM q0 q1 (by omega)
  by_cases n0 : (32 : UInt8) ∈ bl p0
  · exact pairs_b0 p0 p1 desc which w hM q0 q1 q2 (decide_eq_true n0)
  by_cases n1 : (32 : UInt8) ∈ bl p1
  · exact pairs_b1 p0 p1 desc which w hM q0 q1 q2 (decide_eq_false n0) (decide_eq_true n1)
  by_cases n2 : (32 : UInt8) ∈ bl desc
  · exact pairs_b2 p0 p1 desc which w hM q0 q1 q2 (decide_eq_false n0) (decide_eq_false n1) (decide_eq_true n2)
  have h3 : Int.tmod which 3 = 0 ∨ Int.tmod which 3 = 1 ∨ Int.tmod which 3 = 2 := by
    rw [Int.tmod_eq_emod_of_nonneg hw]
    omega
  rcases h3 with h | h | h
  · exact pairs_w0 p0 p1 desc which w hM q0 q1 q2 (decide_eq_false n0) (decide_eq_false n1) (decide_eq_false n2) h
  · exact pairs_w1 p0 p1 desc which w hM q0 q1 q2 (decide_eq_false n0) (decide_eq_false n1) (decide_eq_false n2) h
  · exact pairs_w2 p0 p1 desc which w hM q0 q1 q2 (decide_eq_false n0) (decide_eq_false n1) (decide_eq_false n2) h
end Go.Proofs.YtaokkkolbifdpaaGreatDoor.Hand
end

section
namespace Go.Proofs.YtaokkkolbifdpaaGreatDoor.Hand
open Go.ChangeShapes Go.WideShapes Go.ChangeAt Go.RowKit Go.Proofs.YtaokkkolbifdpaaGreatDoorW.PrintWords Go.Proofs.YtaokkkolbifdpaaGreatDoorW.PrintLast Go.Proofs.YtaokkkolbifdpaaGreatDoorW.PrintMore
section
variable {H : Type} {enc : TypeId × Value → H} {P : Program} {w : World} {base : Nat} {spare : Nat → Bool} {held : Bool}
end
end Go.Proofs.YtaokkkolbifdpaaGreatDoor.Hand
end

section
namespace Go.Proofs.YtaokkkolbifdpaaGreatDoor.Hand
open Go.ChangeShapes Go.WideShapes Go.ChangeAt Go.Joins Go.Deep Go.RowKit Go.Proofs.YtaokkkolbifdpaaGreatDoorW.PrintWords Go.Proofs.YtaokkkolbifdpaaGreatDoorW.PrintLast Go.Proofs.YtaokkkolbifdpaaGreatDoorW.PrintMore
set_option linter.unusedVariables false
namespace Op
section
variable {H : Type} {enc : TypeId × Value → H} {P : Program} {w : World} {base : Nat} {spare : Nat → Bool} {held : Bool}
def Opens (enc : TypeId × Value → H) (P : Program) (w : World) (base : Nat) (spare : Nat → Bool) (held : Bool) {α : Type} (kd : Kd α) (Q : α → Prop) (t : TypeId) : Prop :=
  ∀ (n : Nat) (cs : List Value) (x : DataW H × List MemPlace), DataW.trod enc P w base spare held n t cs = some x → (∀ m ∈ x.1.weights P t, m ≤ reachBytes) → ∃ a, kd.K w a cs ∧ Q a
theorem opens_str {t : TypeId} (ht : P.underlying t = some .string) : Opens enc P w base spare held Kd.string (fun s => s.size ≤ 140737488351232) t := by
  intro n cs x h hw
  obtain ⟨s, rfl, rfl, _⟩ := DataW.trod_string ht h
  have h2 := hw s.data.toList.length (by simp [DataW.weights])
  rw [Array.length_toList] at h2
  exact ⟨s, rfl, h2⟩
def Fields (enc : TypeId × Value → H) (P : Program) (w : World) (base : Nat) (spare : Nat → Bool) (held : Bool) {α : Type} (kd : Kd α) (Q : α → Prop) (fs : List Field) (o : Nat) : Prop :=
  ∀ (n : Nat) (cs : List Value) (xs : List (DataW H × List MemPlace)), cs.length = o + kd.sz → xs.length = fs.length →
    (∀ (i : Nat) (f : Field), fs[i]? = some f → DataW.trod enc P w base spare held n f.type ((cs.drop f.offset).take (P.cellsOf f.type)) = xs[i]?) →
    (∀ (i : Nat) (f : Field) (x : DataW H × List MemPlace), fs[i]? = some f → xs[i]? = some x → ∀ m ∈ x.1.weights P f.type, m ≤ reachBytes) → ∃ a, kd.K w a (cs.drop o) ∧ Q a
theorem fields_one {α : Type} {kd : Kd α} {Q : α → Prop} {f : Field} {o : Nat} (hoff : f.offset = o) (hc : P.cellsOf f.type = kd.sz) (ho : Opens enc P w base spare held kd Q f.type) : Fields enc P w base spare held kd Q [f] o := by
  intro n cs xs hl hx hf hw
  match xs, hx with
  | [y], _ =>
    have h := hf 0 f rfl
    rw [hoff, hc, List.take_of_length_le (by rw [List.length_drop]; omega)] at h
    exact ho _ _ _ h (hw 0 f y rfl rfl)
theorem fields_cons {α β : Type} {k1 : Kd α} {k2 : Kd β} {Q1 : α → Prop} {Q2 : β → Prop} {f : Field} {fs : List Field} {o : Nat} (hoff : f.offset = o) (hc : P.cellsOf f.type = k1.sz) (ho : Opens enc P w base spare held k1 Q1 f.type)
    (h2 : Fields enc P w base spare held k2 Q2 fs (o + k1.sz)) : Fields enc P w base spare held (Kd.pair k1 k2) (fun p => Q1 p.1 ∧ Q2 p.2) (f :: fs) o := by
  intro n cs xs hl hx hf hw
  have hl' : cs.length = o + (k1.sz + k2.sz) := hl
  match xs, hx with
  | y :: ys, hx =>
    have h := hf 0 f rfl
    rw [hoff, hc] at h
    obtain ⟨a, ha, qa⟩ := ho _ _ _ h (hw 0 f y rfl rfl)
    obtain ⟨b, hb, qb⟩ := h2 n cs ys (by omega) (by simpa using hx) (fun i g hg => by have := hf (i + 1) g (by simpa using hg); simpa using this) (fun i g x hg hx => hw (i + 1) g x (by simpa using hg) (by simpa using hx))
    refine ⟨(a, b), ⟨(cs.drop o).take k1.sz, cs.drop (o + k1.sz), ?_, ha, hb⟩, qa, qb⟩
    rw [← List.drop_drop, List.take_append_drop]
theorem weights_fields : ∀ {fs : List Field} {xs : List (DataW H × List MemPlace)} {i : Nat} {f : Field} {x : DataW H × List MemPlace}, fs[i]? = some f → xs[i]? = some x → ∀ m ∈ x.1.weights P f.type, m ∈ DataW.weightsEach P (fs.map (·.type)) (xs.map (·.1))
  | [], _, i, f, x, hf, _, _, _ => by simp at hf
  | _ :: _, [], i, f, x, _, hx, _, _ => by simp at hx
  | g :: fs, y :: ys, 0, f, x, hf, hx, m, hm => by
    simp at hf hx
    subst hf hx
    simp only [List.map_cons, DataW.weightsEach, List.mem_append]
    exact .inl hm
  | g :: fs, y :: ys, i + 1, f, x, hf, hx, m, hm => by
    simp only [List.map_cons, DataW.weightsEach, List.mem_append]
    exact .inr (weights_fields (fs := fs) (xs := ys) (i := i) (by simpa using hf) (by simpa using hx) m hm)
theorem opens_struct {α : Type} {kd : Kd α} {Q : α → Prop} {t : TypeId} {fs : Array Field} (ht : P.underlying t = some (.struct fs)) (hc : P.cellsOf t = kd.sz) (hf : Fields enc P w base spare held kd Q fs.toList 0) : Opens enc P w base spare held kd Q t := by
  intro fuel cs x h hw
  obtain ⟨xs, m, _, rfl, hl, hlen, hi⟩ := DataW.trod_struct ht h
  obtain ⟨a, ha, hq⟩ := hf m cs xs (by omega) (by simpa using hlen) (fun i f hf => hi i f (by simpa using hf)) (fun i f x hf hx n hn => hw n (by
    simp only [DataW.weights, ht]
    exact weights_fields hf hx n hn))
  exact ⟨a, by simpa using ha, hq⟩
theorem opens_mono {α : Type} {kd : Kd α} {Q Q' : α → Prop} {t : TypeId} (ho : Opens enc P w base spare held kd Q t) (h : ∀ a, Q a → Q' a) : Opens enc P w base spare held kd Q' t := by
  intro n cs x hx hw
  obtain ⟨a, ha, hq⟩ := ho n cs x hx hw
  exact ⟨a, ha, h a hq⟩
theorem open_agg {α : Type} {kd : Kd α} {Q : α → Prop} {t : TypeId} {fs : Array Field} {r : Reach} {b0 : Nat} {v : Value} {d : DataW H} {ps : List MemPlace} (ht : P.underlying t = some (.struct fs)) (ho : Opens enc P w base spare held kd Q t)
    (hw : ∀ n ∈ d.weights P t, n ≤ reachBytes) (hval : Value.okWide P w r b0 t v) (hd : DataW.Trod enc P w base spare held t v d ps) : ∃ a cs, v = .agg ⟨cs⟩ ∧ kd.K w a cs ∧ Q a := by
  obtain ⟨⟨cs⟩, rfl, _⟩ := okWide_struct ht hval
  obtain ⟨fuel, hf⟩ := hd
  obtain ⟨a, ha, hq⟩ := ho _ _ _ hf hw
  exact ⟨a, cs, rfl, ha, hq⟩
end
end Op
end Go.Proofs.YtaokkkolbifdpaaGreatDoor.Hand
end

section
namespace Go.Proofs.YtaokkkolbifdpaaGreatDoor.Hand
open Go.ChangeShapes Go.WideShapes Go.ChangeAt Go.Joins Go.Deep Go.RowKit Go.Proofs.YtaokkkolbifdpaaGreatDoorW.PrintWords Go.Proofs.YtaokkkolbifdpaaGreatDoorW.PrintLast Go.Proofs.YtaokkkolbifdpaaGreatDoorW.PrintMore
set_option linter.unusedVariables false
set_option maxRecDepth 20000
namespace Op
section
variable {H : Type} {enc : TypeId × Value → H} {w : World} {base : Nat} {spare : Nat → Bool} {held : Bool}
def QPr (p : ByteArray × ByteArray) : Prop := p.1.size ≤ 140737488351232 ∧ p.2.size ≤ 140737488351232
theorem opens_pr : Opens enc Tryz.prog w base spare held (Kd.pair Kd.string Kd.string) QPr 23 :=
  opens_mono (opens_struct Tryz.underlying23 (by kernel_rfl) (fields_cons rfl (by kernel_rfl) (opens_str Tryz.underlying9) (fields_one rfl (by kernel_rfl) (opens_str Tryz.underlying9)))) (fun a h => h)
theorem open_pr {r : Reach} {b0 : Nat} {v : Value} {d : DataW H} {ps : List MemPlace} (hw : ∀ n ∈ d.weights Tryz.prog 23, n ≤ reachBytes) (hval : Value.okWide Tryz.prog w r b0 23 v) (hd : DataW.Trod enc Tryz.prog w base spare held 23 v d ps) :
    ∃ a b : ByteArray, v = .agg #[.string a, .string b] ∧ a.size ≤ 140737488351232 ∧ b.size ≤ 140737488351232 := by
  obtain ⟨⟨a, b⟩, cs, rfl, hK, hq⟩ := open_agg Tryz.underlying23 opens_pr hw hval hd
  unfold QPr at hq
  obtain ⟨_, _, rfl, rfl, rfl⟩ := hK
  exact ⟨a, b, rfl, hq.1, hq.2⟩
end
end Op
end Go.Proofs.YtaokkkolbifdpaaGreatDoor.Hand
end
