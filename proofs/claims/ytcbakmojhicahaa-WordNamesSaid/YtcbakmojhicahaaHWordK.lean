import Derived.Test.YtcbakmojhicahaaHWordJ
import Derived.RangeFuncBox
import Derived.Maps.OwnIn
import Derived.Maps.AppendAt
import Derived.BigRegionIn
import Derived.IntWalk
namespace Go.Proofs.Ytcbakmojhicahaa.Hand
open Go.RowKit Go.Shelf Go.Proofs.YtcbakmojhicahaaW.PrintWords Go.Proofs.YtcbakmojhicahaaW.PrintLast Go.Proofs.YtcbakmojhicahaaW.PrintMore
set_option linter.unusedVariables false
set_option linter.unusedSimpArgs false
attribute [local go_sem] Oper.semAt_some

set_option maxHeartbeats 2000000 in
theorem word_each (s : ByteArray) (w : World) :
    Calls Try.prog 123 #[.string s] w fun e w' => e = .returned (.func (.func 148) #[] #[.pointer (some ⟨w.heap.size, 0, none⟩)]) ∧ w' = w.alloc (.cells #[.string s] 9) := by
  have hmf : ∀ (fn : Fn) (first cap : Array Value) (w : World), (Instr.makeFunc fn first cap).run Try.prog w = .ok (.func fn first cap) w := fun _ _ _ _ => rfl
  go_enter Try.func123, Try.ntmps123
  go_wp2
  go_ret
  exact ⟨rfl, rfl⟩
theorem lines_info : (Try.prog.info? 9).map (fun i => (i.zero, i.size, i.bytes)) = some (some (.string ⟨#[]⟩), 1, 16) := by kernel_rfl

abbrev FltT : TypeId := 120
abbrev StrsT : TypeId := 23
/-- Between two lines. -/
def LinesI (w : World) (pre : List (ByteArray × Bool)) (W : World) : Prop :=
  (∀ x ∈ pre, goodS x = true) ∧ (∃ v, Boxed W (w.heap.size + 1 + 1) StrsT v ∧ W.ownsRow (w.heap.size + 4) 9 1 v pre.length (pre.map fun x => Value.string x.1)) ∧
  Boxed W w.heap.size StrsT (.slice none 0 0) ∧ W.heap[w.heap.size + 1]? = some (.cells #[.int .i64 0, .int .i64 0] FltT (0, 0)) ∧ Below w.heap.size w W ∧ w.heap.size + 4 ≤ W.heap.size
/-- A line was none. -/
def LinesX (w : World) (c : Code) (pre : List (ByteArray × Bool)) (W : World) : Prop :=
  c = .ret ∧ ∃ q x, pre = q ++ [x] ∧ (∀ y ∈ q, goodS y = true) ∧ goodS x = false ∧ Boxed W w.heap.size StrsT (.slice none 0 0) ∧
    W.heap[w.heap.size + 1]? = some (.cells #[.int .i64 1, .int .i64 ((q.length : Int) + 1)] FltT (0, 0)) ∧ Below w.heap.size w W ∧ w.heap.size + 4 ≤ W.heap.size
theorem Boxed_alloc2 {W : World} {g : Nat} {cs : Array Value} {t : TypeId} {o o1 : Obj} (h : W.heap[g]? = some (.cells cs t (0, 0))) : ((W.alloc o).alloc o1).heap[g]? = some (.cells cs t (0, 0)) :=
  blk_grown (blk_grown h (World.grownBy_alloc W o none) (by simp)) (World.grownBy_alloc _ o1 none) (by simp)
theorem blk_stays {X Y : World} {row : Option Nat} {B b g : Nat} {cs : Array Value} {t : TypeId} (h : X.heap[g]? = some (.cells cs t (0, 0))) (hg : X.grownBy Y row)
    (hr : ∀ r, row = some r → r = b ∨ (B ≤ r ∧ ∃ o : Obj, X.heap[r]? = some o ∧ o.isCells = false)) (hne : g ≠ b) : Y.heap[g]? = some (.cells cs t (0, 0)) := by
  refine (hg.block g (Array.getElem?_eq_some_iff.1 h).1 fun e => ?_).trans h
  rcases hr g e.symm with h1 | ⟨_, o, ho, hc⟩
  · exact hne h1
  · rw [h] at ho; cases ho; cases hc
theorem row_stays {X Y : World} {row : Option Nat} {B b base : Nat} {e : TypeId} {v : Value} {k : Nat} {xs : List Value} (h : X.ownsRow base e 1 v k xs) (hg : X.grownBy Y row)
    (hr : ∀ r, row = some r → r = b ∨ (B ≤ r ∧ ∃ o : Obj, X.heap[r]? = some o ∧ o.isCells = false)) (hb : b < base) : Y.ownsRow base e 1 v k xs := by
  rcases h.2 with ⟨hv, _⟩ | ⟨g, cap, cur, hv, hbg, hh, _⟩
  · exact h.kept hg (.inl (by rw [hv]; rfl))
  · refine h.kept hg (.inr fun ev => ?_)
    have ev' : row = some g := by rw [← ev, hv]; rfl
    rcases hr g ev' with h1 | ⟨_, o, ho, hc⟩
    · omega
    · rw [hh] at ho; cases ho; cases hc
theorem linesI_holds (w : World) : HoldsAll (w.heap.size + 4) (w.heap.size + 3) (LinesI w) := fun pre X Y row ⟨h1, ⟨v, hv, hrow⟩, h2, h3, h4, h5⟩ hg hr =>
  ⟨h1, ⟨v, blk_stays hv hg hr (by omega), row_stays hrow hg hr (by omega)⟩, blk_stays h2 hg hr (by omega), blk_stays h3 hg hr (by omega),
    h4.grown hg h4.size (fun k e => by rcases hr k e with h | ⟨h, _⟩ <;> omega), Nat.le_trans h5 hg.size⟩
theorem linesX_holds (w : World) (c : Code) : HoldsAll (w.heap.size + 4) (w.heap.size + 3) (LinesX w c) := fun pre X Y row ⟨hc, q, x, h0, h1, hx, h2, h3, h4, h5⟩ hg hr =>
  ⟨hc, q, x, h0, h1, hx, blk_stays h2 hg hr (by omega), blk_stays h3 hg hr (by omega), h4.grown hg h4.size (fun k e => by rcases hr k e with h | ⟨h, _⟩ <;> omega), Nat.le_trans h5 hg.size⟩
theorem own_lower {W : World} {base base' : Nat} {e : TypeId} {size : Nat} {v : Value} {k : Nat} {xs : List Value} (h : W.ownsRow base e size v k xs) (hb : base' ≤ base) : W.ownsRow base' e size v k xs := by
  refine ⟨h.1, h.2.imp id ?_⟩
  rintro ⟨g, cap, cur, h1, h2, h3⟩
  exact ⟨g, cap, cur, h1, Nat.le_trans hb h2, h3⟩
theorem run_good : ∀ (l : List (ByteArray × Bool)) (out : List ByteArray), (∀ x ∈ l, goodS x = true) → runS out l = (out ++ l.map (·.1), 0, 0)
  | [], out, _ => by simp [runS]
  | x :: l, out, h => by
    rw [runS, if_pos (h x (by simp)), run_good l _ (fun y hy => h y (by simp [hy]))]
    simp
theorem run_bad : ∀ (q : List (ByteArray × Bool)) (x : ByteArray × Bool) (r : List (ByteArray × Bool)) (out : List ByteArray), (∀ y ∈ q, goodS y = true) → goodS x = false → runS out (q ++ x :: r) = ([], 1, (out.length : Int) + q.length + 1)
  | [], x, r, out, _, hx => by rw [List.nil_append, runS, hx]; simp
  | y :: q, x, r, out, h, hx => by
    rw [List.cons_append, runS, if_pos (h y (by simp)), run_bad q x r _ (fun z hz => h z (by simp [hz])) hx]
    simp
    omega
theorem linesX_both (w W : World) (pre : List (ByteArray × Bool)) (x : ByteArray × Bool) (h1 : ∀ y ∈ pre, goodS y = true) (hx : goodS x = false) (h2 : Boxed W w.heap.size StrsT (.slice none 0 0))
    (h3 : W.heap[w.heap.size + 1]? = some (.cells #[.int .i64 0, .int .i64 0] FltT (0, 0))) (h4 : Below w.heap.size w W) (h5 : w.heap.size + 4 ≤ W.heap.size) :
    (KeepsOthers W (((W.setCell ⟨w.heap.size, 0, none⟩ (.slice none 0 0)).setCell ⟨w.heap.size + 1, 0, none⟩ (.int .i64 1)).setCell ⟨w.heap.size + 1, 1, none⟩ (.int .i64 ((pre.length : Int) + 1))).drew ∧
      LinesX w .ret (pre ++ [x]) (((W.setCell ⟨w.heap.size, 0, none⟩ (.slice none 0 0)).setCell ⟨w.heap.size + 1, 0, none⟩ (.int .i64 1)).setCell ⟨w.heap.size + 1, 1, none⟩ (.int .i64 ((pre.length : Int) + 1))).drew) ∧
    (KeepsOthers W (((W.setCell ⟨w.heap.size + 1, 0, none⟩ (.int .i64 1)).setCell ⟨w.heap.size + 1, 1, none⟩ (.int .i64 ((pre.length : Int) + 1))).setCell ⟨w.heap.size, 0, none⟩ (.slice none 0 0)).drew ∧
      LinesX w .ret (pre ++ [x]) (((W.setCell ⟨w.heap.size + 1, 0, none⟩ (.int .i64 1)).setCell ⟨w.heap.size + 1, 1, none⟩ (.int .i64 ((pre.length : Int) + 1))).setCell ⟨w.heap.size, 0, none⟩ (.slice none 0 0)).drew) := by
  have s1 := fun (X : World) (hX : X.heap[w.heap.size + 1]? = some (.cells #[.int .i64 0, .int .i64 0] FltT (0, 0))) => blk_set (blk_set hX 0 (.int .i64 1)) 1 (.int .i64 ((pre.length : Int) + 1))
  simp only [List.setIfInBounds_toArray, List.set_cons_zero, List.set_cons_succ] at s1
  refine ⟨⟨(((KeepsOthers.setCell _ _ _).trans (KeepsOthers.setCell _ _ _)).trans (KeepsOthers.setCell _ _ _)).trans (KeepsOthers.drew _), rfl, pre, x, rfl, h1, hx, ?_, ?_, ?_, ?_⟩,
    ⟨(((KeepsOthers.setCell _ _ _).trans (KeepsOthers.setCell _ _ _)).trans (KeepsOthers.setCell _ _ _)).trans (KeepsOthers.drew _), rfl, pre, x, rfl, h1, hx, ?_, ?_, ?_, ?_⟩⟩
  · have := blk_far (blk_far (h2.set (.slice none 0 0)) (p := ⟨w.heap.size + 1, 0, none⟩) (by simp) (.int .i64 1)) (p := ⟨w.heap.size + 1, 1, none⟩) (by simp) (.int .i64 ((pre.length : Int) + 1))
    exact this
  · exact s1 _ (blk_far h3 (p := ⟨w.heap.size, 0, none⟩) (by simp) _)
  · exact below_drew (((h4.setCell (p := ⟨w.heap.size, 0, none⟩) (Nat.le_refl _) _).setCell (p := ⟨w.heap.size + 1, 0, none⟩) (by simp) _).setCell (p := ⟨w.heap.size + 1, 1, none⟩) (by simp) _)
  · simpa using h5
  · have h6 := blk_far (blk_far h2 (p := ⟨w.heap.size + 1, 0, none⟩) (by simp) (.int .i64 1)) (p := ⟨w.heap.size + 1, 1, none⟩) (by simp) (.int .i64 ((pre.length : Int) + 1))
    exact Boxed.set (.slice none 0 0) h6
  · exact blk_far (s1 _ h3) (p := ⟨w.heap.size, 0, none⟩) (by simp) _
  · exact below_drew (((h4.setCell (p := ⟨w.heap.size + 1, 0, none⟩) (by simp) _).setCell (p := ⟨w.heap.size + 1, 1, none⟩) (by simp) _).setCell (p := ⟨w.heap.size, 0, none⟩) (Nat.le_refl _) _)
  · simpa using h5
/-- The two results' boxes, read when the loop's block for deferred calls has been shut. -/
theorem lines_end (w W : World) (D : Nat) (e x : Int) (v : Value) (xs : List ByteArray) (hD : w.heap.size + 4 ≤ D) (hK : W.heap[D]? = some (.deferred (some []))) (h2 : Boxed W w.heap.size StrsT v)
    (h3 : W.heap[w.heap.size + 1]? = some (.cells #[.int .i64 e, .int .i64 x] FltT (0, 0))) (h4 : Below w.heap.size w W) (hrow : W.ownsRow (w.heap.size + 4) 9 1 v xs.length (xs.map Value.string)) :
    ((W.putObj D (.deferred none)).cell? ⟨w.heap.size, 0, none⟩ = some v ∧ (W.putObj D (.deferred none)).cell? ⟨w.heap.size + 1, 0, none⟩ = some (.int .i64 e) ∧ (W.putObj D (.deferred none)).cell? ⟨w.heap.size + 1, 1, none⟩ = some (.int .i64 x)) ∧
    Kd.R Kd.string 9 (W.putObj D (.deferred none)) w.heap.size (fun _ => True) v xs ∧ Below w.heap.size w (W.putObj D (.deferred none)) := by
  have hk : ∀ r, some D = some r → ∃ o : Obj, W.heap[r]? = some o ∧ o.isCells = false := fun r e => by cases e; exact ⟨_, hK, rfl⟩
  have hc3 := blk_cell h3 0
  have hc4 := blk_cell h3 1
  simp only [List.getElem?_toArray, List.getElem?_cons_zero, List.getElem?_cons_succ] at hc3 hc4
  refine ⟨⟨cell_kept h2.cell (grownBy_putObj' _ D _) hk, cell_kept hc3 (grownBy_putObj' _ D _) hk, cell_kept hc4 (grownBy_putObj' _ D _) hk⟩, Kd.R_of_own ?_ (fun _ _ => trivial), ?_⟩
  · exact own_lower (ownsRow_putObj hrow _ hK rfl) (by omega)
  · exact h4.trans (belowK_b (w := w) (Nat.le_refl _) W D _ _ (by omega) hK rfl rfl)
theorem linesI_next (w W w1 : World) (pre : List (ByteArray × Bool)) (line : ByteArray) (v v' : Value) (o : Obj) (hlen : (0 : Nat) < w.heap.size) (h1 : ∀ y ∈ pre, goodS y = true) (hx : goodS (line, true) = true)
    (hv : Boxed W (w.heap.size + 1 + 1) StrsT v) (hrow : W.ownsRow (w.heap.size + 4) 9 1 v pre.length (pre.map fun x => Value.string x.1)) (h2 : Boxed W w.heap.size StrsT (.slice none 0 0))
    (h3 : W.heap[w.heap.size + 1]? = some (.cells #[.int .i64 0, .int .i64 0] FltT (0, 0))) (h4 : Below w.heap.size w W) (h5 : w.heap.size + 4 ≤ W.heap.size)
    (hown : w1.ownsRow (w.heap.size + 4) 9 1 v' (pre.length + 1) ((pre.map fun x => Value.string x.1) ++ [.string line])) (hgrow : (W.alloc o).grownBy w1 v.ownBlock) :
    Boxed w1 (w.heap.size + 1 + 1) StrsT v ∧ KeepsOthers W (w1.setCell ⟨w.heap.size + 1 + 1, 0, none⟩ v') ∧ SameBlk (fun i => i = w.heap.size + 1 + 1 + 1 ∨ i = 0) W (w1.setCell ⟨w.heap.size + 1 + 1, 0, none⟩ v') ∧
      LinesI w (pre ++ [(line, true)]) (w1.setCell ⟨w.heap.size + 1 + 1, 0, none⟩ v') := by
  obtain ⟨a1, a2, a3, a4, a5⟩ := hv.appended (n₀ := w.heap.size) (by decide) (own_lower hrow (by omega : w.heap.size ≤ w.heap.size + 4)) (by omega) (by omega) (own_lower hown (by omega : w.heap.size ≤ w.heap.size + 4)) hgrow
  have hr4 := hown.kept (grownBy_setCell' w1 (w.heap.size + 1 + 1) v') (.inr (a1.not_row (by decide) hown).symm)
  have ho := hrow.alloc o
  have hbase : ∀ k, v.ownBlock = some k → w.heap.size + 4 ≤ k := fun k hk => (hrow.lt k hk).1
  refine ⟨a1, a4, ?_, ?_, ⟨v', a2, by simpa using hr4⟩, ?_, ?_, h4.trans a5, ?_⟩
  · have go : ∀ i, i < w.heap.size + 4 → i ≠ w.heap.size + 1 + 1 → (w1.setCell ⟨w.heap.size + 1 + 1, 0, none⟩ v').heap[i]? = W.heap[i]? := fun i hi hne => by
      rw [Below.heap_setCell w1 ⟨w.heap.size + 1 + 1, 0, none⟩ v' i hne]
      exact (hgrow.block i (by simp; omega) (fun e => by have := hbase i e.symm; omega)).trans (Below.heap_alloc W o i (by omega))
    rintro i (rfl | rfl)
    · exact go _ (by omega) (by omega)
    · exact go _ (by omega) (by omega)
  · intro y hy
    simp only [List.mem_append, List.mem_singleton] at hy
    rcases hy with hy | hy
    · exact h1 y hy
    · rw [hy]; exact hx
  · have := (h2.alloc o).kept hgrow ((h2.alloc o).not_row (by decide) ho)
    exact blk_far this (p := ⟨w.heap.size + 1 + 1, 0, none⟩) (by simp; omega) _
  · have h3' := blk_grown h3 (World.grownBy_alloc W o none) (by simp)
    have := blk_grown h3' hgrow (own_ne ho h3' (by decide))
    exact blk_far this (p := ⟨w.heap.size + 1 + 1, 0, none⟩) (by simp) _
  · have := hgrow.size
    simp at this ⊢
    omega
def word_Lines.f (s : ByteArray) : Option (List ByteArray × Int × Int) := if s.size ≤ 9223372036854775807 then some ((linesL (bl s)).1.map lb, (linesL (bl s)).2) else none
set_option maxHeartbeats 8000000 in
set_option maxRecDepth 100000 in
theorem word_Lines.calls (a0 : ByteArray) (r1 : List ByteArray) (r2 r3 : Int) (w : World) (hGMaxL : MaxL w) (h : word_Lines.f a0 = some (r1, r2, r3)) :
    Calls Try.prog 80 #[.string a0] w fun e w' => ∃ v0_ : Value, e = .returned (.tuple #[v0_, .agg #[.int .i64 r2, .int .i64 r3]]) ∧ Kd.R Kd.string 9 w' w.heap.size (fun _ => True) v0_ r1 ∧ Below w.heap.size w w' := by
  refine (callsIn_wide (n := 9)).1 ?_
  unfold word_Lines.f at h
  split at h
  · rename_i hs
    have h := Option.some.inj h
    unfold linesL at h
    rw [bl_len] at h
    obtain ⟨i0, hi, hz0, hz1, hz2⟩ := info_parts lines_info
    by_cases hbig : a0.size > 65536
    · rw [if_pos hbig] at h
      simp only [List.map_nil, Prod.mk.injEq] at h
      obtain ⟨rfl, rfl, rfl⟩ := h
      have hd : decide (65536 < a0.size) = true := decide_eq_true hbig
      have hd2 : decide ((65536 : Int) < (a0.size : Int)) = true := decide_eq_true (by omega)
      clear hbig
      refine callsIn_of_wp_marks Try.func80 rfl trivial ?_ rfl
      simp only [Try.ntmps80, List.size_toArray, List.length_cons, List.length_nil, Nat.reduceAdd, Nat.reduceSub, Array.replicate_succ, Array.replicate_zero, List.push_toArray, List.append_toArray, List.nil_append, List.cons_append]
      gi_wp2
      refine ⟨.tuple #[.slice none 0 0, .agg #[.int .i64 3, .int .i64 0]], by simp [results, Try.results80, go_sem], .slice none 0 0, rfl, Kd.R_nil _ _ _ _ _, below_alloc (below_alloc (Below.refl _ _) _) _⟩
    · rw [if_neg hbig] at h
      have hd : decide (65536 < a0.size) = false := decide_eq_false hbig
      have hd2 : decide ((65536 : Int) < (a0.size : Int)) = false := decide_eq_false (by omega)
      have HRun : Aside0 (runS [] (segsF a0.size (bl a0)) = (r1, r2, r3)) := ⟨by
        have e1 := congrArg Prod.fst h
        have e2 := congrArg Prod.snd h
        simp only at e1 e2
        rw [← e1, ← e2]
        exact run_segs a0.size (bl a0) [] (by rw [bl_len]; omega)⟩
      have hsz : a0.size ≤ 65536 := by omega
      clear h hbig hs
      refine callsIn_of_wp_marks Try.func80 rfl trivial ?_ rfl
      simp only [Try.ntmps80, List.size_toArray, List.length_cons, List.length_nil, Nat.reduceAdd, Nat.reduceSub, Array.replicate_succ, Array.replicate_zero, List.push_toArray, List.append_toArray, List.nil_append, List.cons_append]
      gi_wp2_with (refine ⟨trivial, ?_⟩; refine (callsIn_wide.2 (word_each a0 _)).mono ?_; rintro e w' ⟨rfl, rfl⟩)
      have b0 := Boxed.new w StrsT (.slice none 0 0)
      have b1 := World.alloc_heap_new (w.alloc (.cells #[.slice none 0 0] StrsT)) (.cells #[.int .i64 0, .int .i64 0] FltT)
      have b2 := Boxed.new ((w.alloc (.cells #[.slice none 0 0] StrsT)).alloc (.cells #[.int .i64 0, .int .i64 0] FltT)) StrsT (.slice none 0 0)
      have b3 := Boxed.new (((w.alloc (.cells #[.slice none 0 0] StrsT)).alloc (.cells #[.int .i64 0, .int .i64 0] FltT)).alloc (.cells #[.slice none 0 0] StrsT)) 9 (.string a0)
      rw [World.size_alloc] at b1
      rw [World.size_alloc, World.size_alloc] at b2
      rw [World.size_alloc, World.size_alloc, World.size_alloc] at b3
      obtain ⟨W0, hW0⟩ : ∃ W0, (((w.alloc (.cells #[.slice none 0 0] StrsT)).alloc (.cells #[.int .i64 0, .int .i64 0] FltT)).alloc (.cells #[.slice none 0 0] StrsT)).alloc (.cells #[.string a0] 9) = W0 := ⟨_, rfl⟩
      have hB0 : Below w.heap.size w W0 := hW0 ▸ below_alloc (below_alloc (below_alloc (below_alloc (Below.refl _ _) _) _) _) _
      have hz : W0.heap.size = w.heap.size + 4 := by rw [← hW0]; simp
      have hm0 : MaxL W0 := max_below hGMaxL hB0
      have hI0 : LinesI w [] W0 := ⟨by simp, ⟨.slice none 0 0, hW0 ▸ b2.alloc _, World.ownsRow_nil _ _ _ _⟩, hW0 ▸ ((b0.alloc _).alloc _).alloc _, hW0 ▸ (Boxed_alloc2 b1), hB0, by omega⟩
      have hb3 : Boxed W0 (w.heap.size + 1 + 1 + 1) 9 (.string a0) := hW0 ▸ b3
      have hlen : (0 : Nat) < w.heap.size := by
        obtain ⟨m, hm⟩ := hGMaxL
        exact World.block_lt_of_cell? w _ hm
      rw [hW0]
      clear b0 b1 b2 b3 hW0
      refine range_box rfl (by decide) (gf := 148) (lb := #[.pointer (some ⟨w.heap.size + 1 + 1 + 1, 0, none⟩)]) rfl trivial (enters_of Try.func148 (by kernel_rfl) rfl) (fun _ => rfl) (b := w.heap.size + 1 + 1 + 1) (by omega)
        (by rintro i (rfl | rfl) <;> omega) (each_seq 8 a0 (w.heap.size + 1 + 1 + 1) (by omega)) (fun W hW => ⟨(hW.block _ (by omega)).trans hb3, max_below hm0 hW⟩)
        (LinesI w) (LinesX w) (hz ▸ linesI_holds w) (fun c => hz ▸ linesX_holds w c) hI0
        (fun x => { tmps := #[.string a0, undef, .pointer (some ⟨w.heap.size, 0, none⟩), .pointer (some ⟨w.heap.size + 1, 0, none⟩), .pointer (some ⟨w.heap.size + 1 + 1, 0, none⟩), .string x.1, .bool x.2, .string a0, .int .i64 a0.size, .bool false, undef, .string a0, .func (.func 148) #[] #[.pointer (some ⟨w.heap.size + 1 + 1 + 1, 0, none⟩)], .string x.1, .bool x.2, undef, undef, undef, undef, undef, undef, undef, undef, undef, undef, undef, undef, undef, undef, undef, undef, undef], defers := [] }) ?assign ?body ?done ?stop
      case assign =>
        intro l x W K hK
        gi_wp2
        exact hK
      case body =>
        rintro l pre ⟨line, ended⟩ W hI hN
        have HI := Aside0.mk hI
        obtain ⟨h1, ⟨v, hv, hrow⟩, h2, h3, h4, h5⟩ := hI
        obtain ⟨A, cp, rfl⟩ := own_slice hrow
        have hc := hv.cell
        have hfr := hv.frozen
        have hc2 := h2.cell
        have hf2 := h2.frozen
        have hc3 := blk_cell h3 0
        have hc4 := blk_cell h3 1
        have hf3 := blk_frozen h3 0
        have hf4 := blk_frozen h3 1
        simp only [List.getElem?_toArray, List.getElem?_cons_zero, List.getElem?_cons_succ] at hc3 hc4
        cases ended with
        | false =>
          gi_wp2
          have hboth := linesX_both w W pre (line, false) h1 rfl h2 h3 h4 h5
          obtain ⟨hXA, hXB⟩ := hboth
          have HXA := Aside0.mk hXA
          have HXB := Aside0.mk hXB
          have hw := IntWalk.i64_in ((pre.length : Int) + 1) (by omega)
          clear hXA hXB h1 h2 h3 hv hrow
          refine ⟨trivial, ?_⟩
          gi_wp2
          gi_region
          all_goals gi_wp2
          all_goals first | exact HXA.out | exact HXB.out
        | true =>
          clear hc hfr hc2 hf2 hf3 hf4 hc3 hc4 h1 h2 h3 h4 h5 hv hrow
          obtain ⟨bb, hbb⟩ : ∃ bb, bb = (bl line).all seen := ⟨_, rfl⟩
          have HP := Aside0.mk (word_plain.calls line bb W (by unfold word_plain.f; rw [hbb]))
          have HBB := Aside0.mk hbb
          clear hbb
          gi_wp2_with fail
          refine ⟨trivial, ?_⟩
          refine (CallsIn.inRound l (callsIn_wide.2 HP.out)).mono ?_
          rintro e W1 ⟨rfl, hb⟩
          have hI1 := linesI_holds w pre W W1 none HI.out (grown_of_below hb none) (fun r e => by cases e)
          have hK1 := KeepsOthers.of_grownBy (grown_of_below hb none) (fun j o e => by cases e)
          have hS1 : SameBlk (fun i => i = w.heap.size + 1 + 1 + 1 ∨ i = 0) W W1 := by
            have := HI.out.2.2.2.2.2
            rintro i (rfl | rfl)
            · exact hb.block _ (by omega)
            · exact hb.block _ (by omega)
          have HK1 := Aside0.mk hK1
          have HS1 := Aside0.mk hS1
          clear HI HP hb hK1 hS1
          obtain ⟨h1, ⟨v, hv, hrow⟩, h2, h3, h4, h5⟩ := hI1
          obtain ⟨A, cp, rfl⟩ := own_slice hrow
          have hc := hv.cell
          have hfr := hv.frozen
          have hc2 := h2.cell
          have hf2 := h2.frozen
          have hc3 := blk_cell h3 0
          have hc4 := blk_cell h3 1
          have hf3 := blk_frozen h3 0
          have hf4 := blk_frozen h3 1
          simp only [List.getElem?_toArray, List.getElem?_cons_zero, List.getElem?_cons_succ] at hc3 hc4
          cases bb with
          | false =>
            have hboth := linesX_both w W1 pre (line, true) h1 (by unfold goodS; rw [← HBB.out]; rfl) h2 h3 h4 h5
            obtain ⟨⟨hXA1, hXA2⟩, ⟨hXB1, hXB2⟩⟩ := hboth
            have HXA := Aside0.mk (And.intro (HK1.out.trans hXA1) hXA2)
            have HXB := Aside0.mk (And.intro (HK1.out.trans hXB1) hXB2)
            have hw := IntWalk.i64_in ((pre.length : Int) + 1) (by omega)
            clear hXA1 hXB1 hXA2 hXB2 h1 h2 h3 hv hrow
            gi_wp2
            gi_region
            all_goals gi_wp2
            all_goals first | exact HXA.out | exact HXB.out
          | true =>
            have hgd : goodS (line, true) = true := by unfold goodS; rw [← HBB.out]; rfl
            have HN := Aside0.mk (fun w1 v' o => linesI_next w W1 w1 pre line _ v' o hlen h1 hgd hv hrow h2 h3 h4 h5)
            have HR := Aside0.mk hrow
            have hlen1 : pre.length ≤ 65537 := by omega
            clear hc2 hf2 hc3 hc4 hf3 hf4 h1 h2 h3 h4 hv hrow hgd hfr
            gi_wp2_with (gi_at_builtin; refine wpListIn_append_own _ rfl _ _ StrsT rfl (w.heap.size + 4) 9 i0 (.string ⟨#[]⟩) 1 16 Try.underlying23 hi hz0 hz1 hz2 rfl (by decide) _ _ _ rfl (HR.out.alloc _) ⟨W1.heap.size, 0, none⟩ 1 1 [.string line] rfl rfl (cell_one_new _ _ _) (by simp [Value.oneCell']) (by unfold maxLen; omega) (by omega) (by simp; omega) ?_; intro v' w1 hown' hgrow _; obtain ⟨g', cap', rfl⟩ := ownsRow_succ hown'; obtain ⟨hv1, hk2, hs2, hi2⟩ := HN.out w1 _ _ hown' hgrow; have hc1 := hv1.cell; have hf1 := hv1.frozen; have HF := Aside0.mk (And.intro (HK1.out.trans hk2) (And.intro (fun i hi => (hs2 i hi).trans (HS1.out i hi)) hi2)); clear hk2 hs2 hi2 hown' hgrow hv1)
            exact HF.out
      case done =>
        rintro D xs W hD rfl ⟨h1, ⟨v, hv, hrow⟩, h2, h3, h4, h5⟩ hK
        have hr := HRun.out
        rw [run_good _ [] h1] at hr
        simp only [List.nil_append, Prod.mk.injEq] at hr
        obtain ⟨rfl, rfl, rfl⟩ := hr
        obtain ⟨A, cp, rfl⟩ := own_slice hrow
        have hc := hv.cell
        have hc2 := h2.cell
        have hf2 := h2.frozen
        have hc3 := blk_cell h3 0
        have hc4 := blk_cell h3 1
        have hf3 := blk_frozen h3 0
        have hf4 := blk_frozen h3 1
        simp only [List.getElem?_toArray, List.getElem?_cons_zero, List.getElem?_cons_succ] at hc3 hc4
        have HE := Aside0.mk (lines_end w (((W.setCell ⟨w.heap.size, 0, none⟩ (.slice A (segsF a0.size (bl a0)).length cp)).setCell ⟨w.heap.size + 1, 0, none⟩ (.int .i64 0)).setCell ⟨w.heap.size + 1, 1, none⟩ (.int .i64 0)) D 0 0 (.slice A (segsF a0.size (bl a0)).length cp) ((segsF a0.size (bl a0)).map (·.1)) (by omega)
          ((((KeepsOthers.setCell _ _ _).trans (KeepsOthers.setCell _ _ _)).trans (KeepsOthers.setCell _ _ _)).same D _ hK rfl)
          (blk_far (blk_far (h2.set _) (p := ⟨w.heap.size + 1, 0, none⟩) (by simp) _) (p := ⟨w.heap.size + 1, 1, none⟩) (by simp) _)
          (by
            have := blk_set (blk_set (blk_far h3 (p := ⟨w.heap.size, 0, none⟩) (by simp) (.slice A (segsF a0.size (bl a0)).length cp)) 0 (.int .i64 0)) 1 (.int .i64 0)
            simpa only [List.setIfInBounds_toArray, List.set_cons_zero, List.set_cons_succ] using this)
          (((h4.setCell (p := ⟨w.heap.size, 0, none⟩) (Nat.le_refl _) _).setCell (p := ⟨w.heap.size + 1, 0, none⟩) (by simp) _).setCell (p := ⟨w.heap.size + 1, 1, none⟩) (by simp) _)
          (by
            have n1 := h2.not_row (by decide) hrow
            have n2 := own_ne hrow h3 (by decide)
            have := own_setCell (own_setCell (own_setCell hrow (p := ⟨w.heap.size, 0, none⟩) n1 (.slice A (segsF a0.size (bl a0)).length cp)) (p := ⟨w.heap.size + 1, 0, none⟩) n2 (.int .i64 0)) (p := ⟨w.heap.size + 1, 1, none⟩) n2 (.int .i64 0)
            rw [List.length_map, List.map_map]
            exact this))
        have HK2 := Aside0.mk ((((KeepsOthers.setCell W ⟨w.heap.size, 0, none⟩ (.slice A (segsF a0.size (bl a0)).length cp)).trans (KeepsOthers.setCell _ ⟨w.heap.size + 1, 0, none⟩ (.int .i64 0))).trans (KeepsOthers.setCell _ ⟨w.heap.size + 1, 1, none⟩ (.int .i64 0))).same D _ hK rfl)
        clear h1 h2 h3 h4 h5 hv hrow
        gi_wp2
        refine ⟨by simp, .inl ⟨_, _, rfl, run_takeDeferred HK2.out, ?_⟩⟩
        obtain ⟨⟨q0, q1, q2⟩, q3, q4⟩ := HE.out
        refine ⟨.tuple #[.slice A (segsF a0.size (bl a0)).length cp, .agg #[.int .i64 0, .int .i64 0]], ?_, _, rfl, q3, q4⟩
        simp [results, Try.results80, go_sem, q0, q1, q2]
      case stop =>
        rintro D c pre W hD ⟨rest, hSp⟩ ⟨rfl, q, x, h0, h1, hx, h2, h3, h4, h5⟩ hK
        have hr := HRun.out
        rw [← hSp, h0, List.append_assoc, List.singleton_append, run_bad q x rest [] h1 hx] at hr
        simp only [List.length_nil, Prod.mk.injEq] at hr
        obtain ⟨rfl, rfl, rfl⟩ := hr
        obtain ⟨⟨q0, q1, q2⟩, q3, q4⟩ := lines_end w W D 1 ((q.length : Int) + 1) (.slice none 0 0) [] (by omega) hK h2 h3 h4 (World.ownsRow_nil _ _ _ _)
        gi_wp2
        refine ⟨by simp, .inl ⟨_, _, rfl, run_takeDeferred hK, ?_⟩⟩
        refine ⟨.tuple #[.slice none 0 0, .agg #[.int .i64 1, .int .i64 ((q.length : Int) + 1)]], ?_, _, by simp, q3, q4⟩
        simp [results, Try.results80, go_sem, q0, q1, q2]
  · cases h
end Go.Proofs.Ytcbakmojhicahaa.Hand
