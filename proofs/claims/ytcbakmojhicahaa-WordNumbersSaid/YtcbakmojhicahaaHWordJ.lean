import Derived.Test.YtcbakmojhicahaaHWordI
namespace Go.Proofs.Ytcbakmojhicahaa.Hand
open Go.RowKit Go.Shelf Go.Proofs.YtcbakmojhicahaaW.PrintWords Go.Proofs.YtcbakmojhicahaaW.PrintLast Go.Proofs.YtcbakmojhicahaaW.PrintMore
set_option linter.unusedVariables false
set_option linter.unusedSimpArgs false
attribute [local go_sem] Oper.semAt_some

abbrev encS (x : ByteArray × Bool) : Array Value := #[.string x.1, .bool x.2]
def leftB (b : Nat) (w : World) : Nat := match w.cell? ⟨b, 0, none⟩ with | some (.string r) => r.size | _ => 0
theorem leftB_eq {b : Nat} {w : World} {r : ByteArray} {t : TypeId} (h : Boxed w b t (.string r)) : leftB b w = r.size := by
  unfold leftB
  rw [h.cell]
def segOf (r : ByteArray) : ByteArray × Bool := (⟨(Lib.cut r.data.toList [10]).1.toArray⟩, (Lib.cut r.data.toList [10]).2.2)
def restOf (r : ByteArray) : ByteArray := ⟨(Lib.cut r.data.toList [10]).2.1.toArray⟩
theorem segs_step (r : ByteArray) (hr : r.size ≠ 0) (f : Nat) (hf : r.size ≤ f + 1) : segsF (f + 1) (bl r) = segOf r :: segsF f (bl (restOf r)) ∧ (restOf r).size ≤ f := by
  have hne : bl r ≠ [] := by intro e; apply hr; rw [← bl_len, e]; rfl
  unfold segOf restOf
  rw [segsF, if_neg hne, show r.data.toList = bl r from rfl, cut_until]
  cases hu : untilL 10 (bl r) with
  | none =>
    refine ⟨?_, Nat.zero_le _⟩
    cases f with
    | zero => rfl
    | succ f => simp only [segsF]; rfl
  | some p =>
    obtain ⟨x, q⟩ := p
    obtain ⟨e, _⟩ := until_some _ x q hu
    refine ⟨rfl, ?_⟩
    have := bl_len r
    rw [e] at this
    simp at this
    show q.length ≤ f
    omega
theorem max_same {K : Nat → Prop} {X Y : World} (h : MaxL X) (hs : SameBlk K X Y) (hk : K 0) : MaxL Y := by
  obtain ⟨m, hm⟩ := h
  refine ⟨m, ?_⟩
  have := hs _ hk
  unfold World.cell? at hm ⊢
  rw [this]
  exact hm
theorem max_below {w w' : World} (h : MaxL w) (hb : Below w.heap.size w w') : MaxL w' := by
  obtain ⟨m, hm⟩ := h
  exact ⟨m, pw_cell_below hb hm⟩
theorem MaxL.below {w w' : World} (h : MaxL w) (hb : Below w.heap.size w w') : MaxL w' := max_below h hb
theorem MaxL.drawn {w w' : World} (h : MaxL w) (hd : Drawn0 w w') : MaxL w' := max_below h hd.below
theorem max_set {w : World} {b : Nat} (h : MaxL w) (hb : b ≠ 0) (v : Value) : MaxL (w.setCell ⟨b, 0, none⟩ v) := by
  obtain ⟨m, hm⟩ := h
  refine ⟨m, ?_⟩
  rw [World.cell?_setCell_other]
  · exact hm
  · intro e; cases e; exact hb rfl
theorem grown_drewN (w : World) (n b : Nat) : w.grownBy (w.drewN n) (some b) := grown_of_below (pw_below_drewN (Below.refl _ w) n) _
set_option maxHeartbeats 8000000 in
set_option maxRecDepth 100000 in
theorem each_seq (n : Nat) (s : ByteArray) (b : Nat) (hs : s.size < 4294967281) :
    SeqBox Fence.wide n Try.prog 148 #[.pointer (some ⟨b, 0, none⟩)] encS b (s.size + 1) (fun i => i = b ∨ i = 0) (fun W => Boxed W b 9 (.string s) ∧ MaxL W)
      (fun xs => xs = segsF s.size (bl s)) (fun pre => pre <+: segsF s.size (bl s)) := fun l J Jx W hA hJ hJx hY h0 => by
  obtain ⟨hbox, hmax⟩ := hA
  have hb0 : b ≠ 0 := by
    rintro rfl
    obtain ⟨m, hm⟩ := hmax
    rw [hbox.cell] at hm
    cases hm
  have HB0 := Aside0.mk hb0
  have HM0 := Aside0.mk hmax
  have HS := Aside0.mk hs
  clear hs hb0 hmax
  refine callsIn_of_wp Try.func148 rfl trivial ?_ rfl
  simp only [Try.ntmps148, List.size_toArray, List.length_cons, List.length_nil, Nat.reduceAdd, Nat.reduceSub, Array.replicate_succ, Array.replicate_zero, List.push_toArray, List.append_toArray, List.nil_append, List.cons_append]
  gi_wp2
  gi_loopw [3] (fun _ wr => ∃ (pre : List (ByteArray × Bool)) (r : ByteArray) (f : Nat), J pre wr ∧ Aside0 (Boxed wr b 9 (.string r)) ∧ Aside0 (MaxL wr) ∧ Aside0 (segsF s.size (bl s) = pre ++ segsF f (bl r)) ∧ Aside0 (r.size ≤ f ∧ pre.length + f = s.size)) (fun _ wr => leftB b wr)
  case atStart => exact ⟨[], s, s.size, h0, ⟨hbox⟩, HM0, ⟨rfl⟩, ⟨Nat.le_refl _, by simp⟩⟩
  case round =>
    obtain ⟨pre, r, f, hJ0, HBx, HM, HSg, HF⟩ := hrel
    have hc := HBx.out.cell
    have hfr := HBx.out.frozen
    by_cases hr : r.size = 0
    · have hr1 : r.toList = [] := by rw [ByteArray.toList_eq]; exact List.length_eq_zero_iff.1 ((bl_len r).trans hr)
      have hr2 : r.toList.isEmpty = true := by rw [hr1]; rfl
      have HZ : Aside0 (segsF s.size (bl s) = pre) := ⟨by
        have e : bl r = [] := List.length_eq_zero_iff.1 ((bl_len r).trans hr)
        rw [HSg.out, e]
        cases f <;> simp [segsF]⟩
      clear hr
      gi_wp2
      go_end0
      exact ⟨⟨_, rfl⟩, .inl ⟨pre, HZ.out.symm, hJ0⟩⟩
    · have hr2 : r.toList.isEmpty = false := by
        rw [ByteArray.toList_eq]
        have := isEmpty_bl r
        rw [decide_eq_false hr] at this
        exact this
      have hr1 : ¬ r.toList = [] := fun e => by rw [e] at hr2; cases hr2
      have HR := Aside0.mk hr
      clear hr
      obtain ⟨m, hm⟩ := HM.out
      have HC := Aside0.mk (Try.strings_Cut r ⟨#[10]⟩ m wr (by have := HF.out; have := HS.out; omega) hm)
      clear hm
      obtain ⟨f, rfl⟩ : ∃ g, f = g + 1 := ⟨f - 1, by have := HF.out; have := HR.out; omega⟩
      have HT := Aside0.mk (segs_step r HR.out f (by have := HF.out; omega))
      gi_wp2_with fail
      refine ⟨trivial, (fun h => by cases h), ?_⟩
      refine (callsIn_wide.2 HC.out).mono ?_
      rintro e w1 ⟨rfl, n1, rfl⟩
      clear HC
      have hJ1 := hJ _ _ _ hJ0 (grown_drewN wr n1 b)
      have HM1 := Aside0.mk (max_below HM.out (pw_below_drewN (Below.refl _ wr) n1))
      have HB1 := Aside0.mk (show Boxed (wr.drewN n1) b 9 (.string r) from HBx.out)
      obtain ⟨fn, tmps, assign, body, hy, hR⟩ := hY pre (segOf r) _ hJ1 (by have := HF.out; omega)
      dsimp only [encS, segOf] at hy
      clear hc hfr
      gi_wp2
      refine ⟨(fun h => by cases h), ?_⟩
      refine hR.mono ?_
      rintro e W3 (⟨rfl, hJ3, hk3⟩ | ⟨rfl, hJx3⟩)
      · have hB3 : Boxed W3 b 9 (.string r) := (hk3 b (.inl rfl)).trans HB1.out
        have HM3 := Aside0.mk (max_same HM1.out hk3 (.inr rfl))
        have HB3 := Aside0.mk hB3
        have hc3 := hB3.cell
        have hf3 := hB3.frozen
        have hJ4 := hJ _ _ _ hJ3 (grownBy_setCell' W3 b (.string (restOf r)))
        have HB4 := Aside0.mk (hB3.set (.string (restOf r)))
        have HM4 := Aside0.mk (max_set HM3.out HB0.out (.string (restOf r)))
        clear hk3 hB3
        gi_wp2
        go_roundw
        case rel => exact ⟨pre ++ [segOf r], restOf r, f, hJ4, HB4, HM4, ⟨by rw [HSg.out, HT.out.1]; simp⟩, ⟨HT.out.2, by have := HF.out; simp; omega⟩⟩
        case measure =>
          have e1 := leftB_eq HB4.out
          have e2 := leftB_eq HBx.out
          have e3 : (restOf r).size < r.size := by
            have h1 := HR.out
            have := (segs_step r h1 (r.size - 1) (by omega)).2
            omega
          show leftB b _ < leftB b wr
          rw [e2]
          exact lt_of_eq_of_lt e1 e3
      · gi_wp2
        refine bodyPost_ret (results_none rfl _ _ _) rfl ?_
        exact ⟨⟨_, rfl⟩, .inr ⟨_, ⟨segsF f (bl (restOf r)), by rw [HSg.out, HT.out.1]; simp⟩, hJx3⟩⟩
end Go.Proofs.Ytcbakmojhicahaa.Hand
