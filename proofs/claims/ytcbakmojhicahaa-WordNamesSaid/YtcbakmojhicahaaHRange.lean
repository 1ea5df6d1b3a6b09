import Derived.RangeFuncBound
import Derived.RangeFuncNested
import Derived.RangeFuncCalls
import Derived.RangeFuncLeaves
import Derived.Shelf.Abstract
import Derived.Shelf.RegionOpen
import Derived.WalkKit
import Derived.OwnWalkIn
import Derived.TacticsInMore
import Derived.LoopNIn
import Derived.LoopIn
import Derived.Test.YtcbakmojhicahaaProg
namespace Go.Proofs.Ytcbakmojhicahaa.Hand
open Go.RowKit Go.Shelf
variable {F : Fence} {n : Nat} {P : Program} {α : Type}

/-! ### A range over a function that keeps a variable of its own in a box -/
/-- What the blocks of K hold is as it was. -/
def SameBlk (K : Nat → Prop) (X Y : World) : Prop := ∀ i, K i → Y.heap[i]? = X.heap[i]?
/-- A list's state abides whatever turns block b alone, and lays new ones. -/
def Holds {β : Type} (b : Nat) (J : β → World → Prop) : Prop := ∀ s X Y, J s X → X.grownBy Y (some b) → J s Y
/-- The iterator gf: between two rounds it turns its box b alone; a round that goes on leaves the blocks of K as they are. -/
def SeqBox (F : Fence) (n : Nat) (P : Program) (gf : Nat) (lb : Array Value) (encs : α → Array Value) (b N : Nat) (K : Nat → Prop) (A0 : World → Prop) (S Sp : List α → Prop) : Prop :=
  ∀ (l : Nat) (J Jx : List α → World → Prop) (W : World), A0 W → Holds b J → Holds b Jx →
    (∀ pre x X, J pre X → pre.length < N → YieldAt F (n - 1) P l (encs x) X fun e Y =>
      (e = .returned (.bool true) ∧ J (pre ++ [x]) Y ∧ SameBlk K X Y) ∨ (e = .returned (.bool false) ∧ Jx (pre ++ [x]) Y)) →
    J [] W →
    CallsIn F n P gf (#[.func (.yield l) #[] #[]] ++ lb) W fun e Y => (∃ v, e = .returned v) ∧ ((∃ xs, S xs ∧ J xs Y) ∨ (∃ pre, Sp pre ∧ Jx pre Y))
/-- The caller's state abides the loop's book-keeping (from block B on), too. -/
def HoldsAll {β : Type} (B b : Nat) (J : β → World → Prop) : Prop :=
  ∀ s X Y row, J s X → X.grownBy Y row → (∀ r, row = some r → r = b ∨ (B ≤ r ∧ ∃ o : Obj, X.heap[r]? = some o ∧ o.isCells = false)) → J s Y
theorem HoldsAll.box {β : Type} {B b : Nat} {J : β → World → Prop} (h : HoldsAll B b J) : Holds b J := fun s X Y hs hg => h s X Y _ hs hg (fun r e => .inl (by cases e; rfl))
theorem HoldsAll.put {β : Type} {B b : Nat} {J : β → World → Prop} (h : HoldsAll B b J) {s : β} {W : World} {l : Nat} {o : Obj} (o' : Obj) (hs : J s W) (hB : B ≤ l) (hl : W.heap[l]? = some o) (ho : o.isCells = false) : J s (W.putObj l o') :=
  h s W _ (some l) hs (grownBy_putObj' W l o') (fun r e => by cases e; exact .inr ⟨hB, o, hl, ho⟩)
theorem HoldsAll.lay {β : Type} {B b : Nat} {J : β → World → Prop} (h : HoldsAll B b J) {s : β} {W : World} (o : Obj) (hs : J s W) : J s (W.alloc o) :=
  h s W _ none hs (World.grownBy_alloc W o none) (fun r e => by cases e)

theorem range_box {g : Operand} {ps : Array Tmp} {assign body : Code} {Q : Exit → Act → World → Prop} {a : Act} {w : World}
    (hro : F.round = none) (h1 : 1 ≤ n) {gf : Nat} {lb : Array Value} (hg : a.eval g = .func (.func gf) #[] lb) (hFg : F.fn gf) (eg : ∀ args w, (callFunc gf args).run P w = .ok (.enter gf args) w)
    {encs : α → Array Value} (hps : ∀ x, (encs x).size = ps.size) {b N : Nat} (hb : b < w.heap.size) {Kb : Nat → Prop} (hKb : ∀ i, Kb i → i < w.heap.size) {A0 : World → Prop} {S Sp : List α → Prop} (hseq : SeqBox F (n - 1) P gf lb encs b N Kb A0 S Sp)
    (hA : ∀ W, Below w.heap.size w W → A0 W)
    (I : List α → World → Prop) (Ix : Code → List α → World → Prop) (hI : HoldsAll w.heap.size b I) (hIx : ∀ c, HoldsAll w.heap.size b (Ix c)) (h0 : I [] w) (a₁ : α → Act)
    (hassign : ∀ (l : Nat) (x : α) (W : World) (K : Act → World → Prop), K (a₁ x) W →
      assign.wpIn (F.inRound l) (n - 1 - 1) P (Exit.then K (fun _ _ _ => False)) { tmps := (ps.zip (encs x)).foldl (fun t (p, v) => t.setIfInBounds p v) a.tmps, defers := [] } W)
    (hbody : ∀ (l : Nat) (pre : List α) (x : α) (W : World), I pre W → pre.length < N → body.wpIn (F.inRound l) (n - 1 - 1) P (ownPostK (SameBlk Kb) I Ix (pre ++ [x]) W) (a₁ x) W)
    (hdone : ∀ (D : Nat) (xs : List α) (W : World), w.heap.size ≤ D → S xs → I xs W → W.heap[D]? = some (.deferred (some [])) → Q .normal { a with defers := { target := .collected D, args := #[] } :: a.defers } W)
    (hstop : ∀ (D : Nat) (c : Code) (pre : List α) (W : World), w.heap.size ≤ D → Sp pre → Ix c pre W → W.heap[D]? = some (.deferred (some [])) → c.wpIn F n P Q { a with defers := { target := .collected D, args := #[] } :: a.defers } W) :
    (Code.rangeFunc g ps assign body).wpIn F n P Q a w := by
  refine wpIn_rangeFunc fun fn hfn => ?_
  rw [hro]
  let R0 : Loop := { state := .ready, pending := none, fn := fn, tmps := a.tmps, params := ps, assign := assign, body := body, defers := w.heap.size }
  obtain ⟨R, hR⟩ : ∃ R : Loop, R = R0 := ⟨_, rfl⟩
  obtain ⟨L, hL⟩ : ∃ L, L = w.heap.size + 1 := ⟨_, rfl⟩
  obtain ⟨W1, hW1⟩ : ∃ W1, W1 = (w.alloc (.deferred (some []))).alloc (.loop R) := ⟨_, rfl⟩
  have hbk : Below w.heap.size w W1 := hW1 ▸ ((Below.refl _ w).alloc (Nat.le_refl _) _).alloc (by simp) _
  have hLoop : W1.heap[L]? = some (.loop R) := by
    have := World.alloc_heap_new (w.alloc (.deferred (some []))) (.loop R)
    rw [World.size_alloc] at this
    rw [hW1, hL]
    exact this
  have hDef : W1.heap[w.heap.size]? = some (.deferred (some [])) := by
    rw [hW1]
    exact (Below.heap_alloc _ _ _ (by simp)).trans (World.alloc_heap_new w _)
  have hI1 : I [] W1 := hW1 ▸ hI.lay _ (hI.lay _ h0)
  -- what the loop's book-keeping keeps between two rounds, and behind the last one
  let Between : List α → World → Prop := fun pre X => I pre X ∧ X.heap[L]? = some (.loop R) ∧ X.heap[w.heap.size]? = some (.deferred (some []))
  let Behind : List α → World → Prop := fun pre X => ∃ c, Ix c pre X ∧ X.heap[L]? = some (.loop { R with state := .done, pending := some c }) ∧ X.heap[w.heap.size]? = some (.deferred (some []))
  have far : ∀ {X Y : World} {i : Nat} {o : Obj}, X.grownBy Y (some b) → w.heap.size ≤ i → X.heap[i]? = some o → Y.heap[i]? = some o := fun hg hi ho =>
    (hg.block _ (Array.getElem?_eq_some_iff.1 ho).1 (fun e => by cases e; omega)).trans ho
  have hB1 : Holds b Between := fun s X Y hs hg => ⟨hI.box s X Y hs.1 hg, far hg (by omega) hs.2.1, far hg (Nat.le_refl _) hs.2.2⟩
  have hB2 : Holds b Behind := fun s X Y ⟨c, hc, hl, hd⟩ hg => ⟨c, (hIx c).box s X Y hc hg, far hg (by omega) hl, far hg (Nat.le_refl _) hd⟩
  refine ⟨L, [{ target := .collected w.heap.size, args := #[] }], W1, { target := .fn (.func gf) lb, args := #[.func (.yield L) #[] #[]] }, W1, gf, #[.func (.yield L) #[] #[]] ++ lb, W1, ?_, ?_, ?_, ?_, fun _ => h1, ?_⟩
  · rw [hW1, hL, hR]
    exact run_enterLoop_outer _ _ _ _ _
  · simp only [resolve, hg]
    simp [go_sem]
  · intro f' hf'
    simp [Target.leads] at hf'
    exact hf' ▸ hFg
  · simp [invoke, go_sem, eg]
  refine (hseq L Between Behind W1 (hA W1 hbk) hB1 hB2 ?_ ⟨hI1, hLoop, hDef⟩).mono ?_
  · -- a round
    rintro pre x X ⟨hi, hl, hd⟩ hN
    have hy := run_yield (P := P) (args := encs x) hl (by rw [hR]; exact hps x)
    have hfn' : R.fn = fn := by rw [hR]
    refine ⟨_, _, _, _, hy, roundIn_of_wpIn (by rw [hfn']; exact hfn) ?_⟩
    have e1 : R.assign = assign := by rw [hR]
    have e2 : R.params = ps := by rw [hR]
    have e3 : R.tmps = a.tmps := by rw [hR]
    have e4 : R.body = body := by rw [hR]
    have e5 : R.state = .ready := by rw [hR]
    rw [e1, e2, e3, e4]
    refine hassign L x X _ ⟨_, run_beginRound hl e5, ?_⟩
    have hlt : L < X.heap.size := (Array.getElem?_eq_some_iff.1 hl).1
    obtain ⟨Z, hZ⟩ : ∃ Z, Z = X.putObj L (.loop { R with state := .busy }) := ⟨_, rfl⟩
    have hlZ : Z.heap[L]? = some (.loop { R with state := .busy }) := by rw [hZ]; exact World.putObj_heap_same hlt
    have hdZ : Z.heap[w.heap.size]? = some (.deferred (some [])) := by rw [hZ]; exact (World.putObj_heap_other (by omega)).trans hd
    have hbZ : SameBlk Kb X Z := fun i hi => by have := hKb i hi; rw [hZ]; exact World.putObj_heap_other (by omega)
    have hiZ : I pre Z := by rw [hZ]; exact hI.put _ hi (by omega) hl rfl
    rw [← hZ]
    refine wpIn_mono (hbody L pre x Z hiZ hN) ?_
    have ends : ∀ (j : Option Code) (Y : World), KeepsOthers Z Y → Y.heap[L]? = some (.loop { R with state := .busy }) ∧
        (Instr.endRound L j).run P Y = .ok (.bool j.isNone) (Y.putObj L (.loop { R with state := if j.isNone then .ready else .done, pending := j })) ∧
        (Y.putObj L (.loop { R with state := if j.isNone then .ready else .done, pending := j })).heap[L]? = some (.loop { R with state := if j.isNone then .ready else .done, pending := j }) ∧
        (Y.putObj L (.loop { R with state := if j.isNone then .ready else .done, pending := j })).heap[w.heap.size]? = some (.deferred (some [])) := fun j Y hk => by
      have hlY := hk.same _ _ hlZ rfl
      refine ⟨hlY, ?_, World.putObj_heap_same (Array.getElem?_eq_some_iff.1 hlY).1, (World.putObj_heap_other (by omega)).trans (hk.same _ _ hdZ rfl)⟩
      exact run_endRound (P := P) (r := { R with state := .busy }) j hlY
    have left : ∀ (c : Code) (Y : World), KeepsOthers Z Y → Ix c (pre ++ [x]) Y → ∃ v W', (Instr.endRound L (some c)).run P Y = .ok v W' ∧
        ((Ending.returned v = .returned (.bool true) ∧ Between (pre ++ [x]) W' ∧ SameBlk Kb X W') ∨ (Ending.returned v = .returned (.bool false) ∧ Behind (pre ++ [x]) W')) := fun c Y hk hx => by
      obtain ⟨hlY, hr, hl2, hd2⟩ := ends (some c) Y hk
      exact ⟨_, _, hr, .inr ⟨rfl, c, (hIx c).put _ hx (by omega) hlY rfl, hl2, hd2⟩⟩
    rintro e a3 Y hp
    cases e with
    | normal =>
      obtain ⟨hk, hs, hi3⟩ := hp
      obtain ⟨hlY, hr, hl2, hd2⟩ := ends none Y hk
      have e6 : ({ R with state := .ready, pending := none } : Loop) = R := by rw [hR]
      simp only [Option.isNone_none, if_true, e6] at hr hl2 hd2
      exact ⟨_, _, hr, .inl ⟨rfl, ⟨hI.put _ hi3 (by omega) hlY rfl, hl2, hd2⟩, fun i hi => by have h2 := hKb i hi; exact (World.putObj_heap_other (by omega)).trans ((hs i hi).trans (hbZ i hi))⟩⟩
    | ret => exact left .ret Y hp.1 hp.2
    | exit id => exact left (.exit id) Y hp.1 hp.2
    | goto t => exact left (.goto t) Y hp.1 hp.2
    | panic ch => exact hp.elim
    | outgrown => exact hp.elim
  · rintro e Y ⟨⟨v, rfl⟩, (⟨xs, hS, hi, hl, hd⟩ | ⟨pre, hSp, c, hx, hl, hd⟩)⟩
    · have e5 : R.state ≠ .busy := by rw [hR]; simp [R0]
      have e7 : R.pending = none := by rw [hR]
      have := run_endLoop (P := P) hl e5
      rw [e7] at this
      exact ⟨none, _, this, hdone _ xs _ (Nat.le_refl _) hS (hI.put _ hi (by omega) hl rfl) ((World.putObj_heap_other (by omega)).trans hd)⟩
    · exact ⟨some c, _, run_endLoop (P := P) hl (by simp), hstop _ c pre _ (Nat.le_refl _) hSp ((hIx c).put _ hx (by omega) hl rfl) ((World.putObj_heap_other (by omega)).trans hd)⟩
end Go.Proofs.Ytcbakmojhicahaa.Hand
