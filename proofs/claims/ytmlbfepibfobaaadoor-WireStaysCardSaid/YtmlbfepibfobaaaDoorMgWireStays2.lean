import Derived.Test.YtmlbfepibfobaaaDoorMgWireStays1
import Derived.Deep.RegionWith
import Derived.Test.YtmlbfepibfobaaaDoorRows
import Derived.OpenShut
import Derived.SliceStrings
import Derived.ProofKit
import Derived.Test.YtmlbfepibfobaaaDoorWMore
import Derived.ChangeSame
import Derived.Lib.SmallJoins
import Derived.SizedLaws
section
namespace Go.Proofs.YtmlbfepibfobaaaDoor.Hand
open Go.RowKit Go.Proofs.YtmlbfepibfobaaaDoorW.PrintWords Go.Proofs.YtmlbfepibfobaaaDoorW.PrintLast Go.Proofs.YtmlbfepibfobaaaDoorW.PrintMore
set_option linter.unusedVariables false
set_option linter.unusedSimpArgs false

/-- Two readers, the program's and the document's, in a block. -/
structure BothW (G : Option (Nat × Obj)) (w0 w : World) (X : Nat) (l : List Int) (m : Nat) (s t : St) (rb sb : Nat) (A : Option Addr) (c : Nat) (A' : Option Addr) (c' : Nat) : Prop where
  blk : w.heap[X]? = some (.cells #[.pointer (some ⟨rb, 0, none⟩), .pointer (some ⟨sb, 0, none⟩)] 49 (0, 0))
  rd : RdS w rb A c l m s
  rdf : RdF rb A c l m
  rr : RrS w sb A' c' l m t
  rrf : RdF sb A' c' l m
  inv : InvS m s
  inv' : InvS m t
  ne : rb ≠ sb
  nX : X ≠ rb
  nX' : X ≠ sb
  fA : ∀ ad, A = some ad → ad.block ≠ sb ∧ ad.block ≠ X
  fA' : ∀ ad, A' = some ad → ad.block ≠ rb ∧ ad.block ≠ X
  aA : ∀ ad, A = some ad → ad.block < w.heap.size
  aA' : ∀ ad, A' = some ad → ad.block < w.heap.size
  keep : ∀ D o, G = some (D, o) → w.heap[D]? = some o ∧ D ≠ rb ∧ D ≠ sb ∧ D ≠ X
  bX : w0.heap.size ≤ X
  br : w0.heap.size ≤ rb
  bs : w0.heap.size ≤ sb
  bel : Below w0.heap.size w0 w
section
variable {G : Option (Nat × Obj)} {w0 w w' : World} {X D : Nat} {l : List Int} {m : Nat} {s t s1 : St} {rb sb : Nat} {A : Option Addr} {c : Nat} {A' : Option Addr} {c' : Nat}
theorem BothW.lt (h : BothW G w0 w X l m s t rb sb A c A' c') : X < w.heap.size := (Array.getElem?_eq_some_iff.1 h.blk).1
theorem BothW.cells (h : BothW G w0 w X l m s t rb sb A c A' c') : w.cell? ⟨X, 0, none⟩ = some (.pointer (some ⟨rb, 0, none⟩)) ∧ w.cell? ⟨X, 1, none⟩ = some (.pointer (some ⟨sb, 0, none⟩)) ∧ w.frozen? ⟨X, 0, none⟩ = false ∧ w.frozen? ⟨X, 1, none⟩ = false := by
  have h0 := blk_cell h.blk 0
  have h1 := blk_cell h.blk 1
  simp only [List.getElem?_toArray, List.getElem?_cons_zero, List.getElem?_cons_succ] at h0 h1
  exact ⟨h0, h1, blk_frozen h.blk 0, blk_frozen h.blk 1⟩
theorem BothW.below (h : BothW G w0 w X l m s t rb sb A c A' c') (hb : Below w.heap.size w w') : BothW G w0 w' X l m s t rb sb A c A' c' :=
  { h with
    blk := (hb.block X h.lt).trans h.blk
    rd := rd_below h.rd hb
    rr := rr_below h.rr hb
    keep := fun D o e => by
      obtain ⟨k1, k2⟩ := h.keep D o e
      exact ⟨(hb.block D (Array.getElem?_eq_some_iff.1 k1).1).trans k1, k2⟩
    aA := fun ad e => Nat.lt_of_lt_of_le (h.aA ad e) hb.size
    aA' := fun ad e => Nat.lt_of_lt_of_le (h.aA' ad e) hb.size
    bel := below_step h.bel hb }
theorem BothW.drewN (h : BothW G w0 w X l m s t rb sb A c A' c') (k : Nat) : BothW G w0 (w.drewN k) X l m s t rb sb A c A' c' := h.below (pw_below_drewN (Below.refl _ w) k)
theorem BothW.rd_ (h : BothW G w0 w X l m s t rb sb A c A' c') (hr : RdS w' rb A c l m s1) (hi : InvS m s1) (hg : w.grownBy w' (some rb)) : BothW G w0 w' X l m s1 t rb sb A c A' c' :=
  { h with
    blk := (hg.block X h.lt (fun e => h.nX (Option.some.inj e))).trans h.blk
    rd := hr
    rr := rr_kept h.rr hg h.ne.symm (fun ad e => (h.fA' ad e).1)
    inv := hi
    keep := fun D o e => by
      obtain ⟨k1, k2, k3, k4⟩ := h.keep D o e
      exact ⟨(hg.block D (Array.getElem?_eq_some_iff.1 k1).1 (fun e => k2 (Option.some.inj e))).trans k1, k2, k3, k4⟩
    aA := fun ad e => Nat.lt_of_lt_of_le (h.aA ad e) hg.size
    aA' := fun ad e => Nat.lt_of_lt_of_le (h.aA' ad e) hg.size
    bel := below_gr h.bel hg h.br }
theorem BothW.rr_ (h : BothW G w0 w X l m s t rb sb A c A' c') (hr : RrS w' sb A' c' l m s1) (hi : InvS m s1) (hg : w.grownBy w' (some sb)) : BothW G w0 w' X l m s s1 rb sb A c A' c' :=
  { h with
    blk := (hg.block X h.lt (fun e => h.nX' (Option.some.inj e))).trans h.blk
    rr := hr
    rd := rd_kept h.rd hg h.ne (fun ad e => (h.fA ad e).1)
    inv' := hi
    keep := fun D o e => by
      obtain ⟨k1, k2, k3, k4⟩ := h.keep D o e
      exact ⟨(hg.block D (Array.getElem?_eq_some_iff.1 k1).1 (fun e => k3 (Option.some.inj e))).trans k1, k2, k3, k4⟩
    aA := fun ad e => Nat.lt_of_lt_of_le (h.aA ad e) hg.size
    aA' := fun ad e => Nat.lt_of_lt_of_le (h.aA' ad e) hg.size
    bel := below_gr h.bel hg h.bs }
theorem BothW.far (h : BothW G w0 w X l m s t rb sb A c A' c') (hg : w.grownBy w' (some D)) (hD : w0.heap.size ≤ D) (hX : X ≠ D) (hr : rb ≠ D) (hs : sb ≠ D) (hA : ∀ ad, A = some ad → ad.block ≠ D) (hA' : ∀ ad, A' = some ad → ad.block ≠ D) (hG : ∀ E o, G = some (E, o) → E ≠ D) : BothW G w0 w' X l m s t rb sb A c A' c' :=
  { h with
    blk := (hg.block X h.lt (fun e => hX (Option.some.inj e))).trans h.blk
    rd := rd_kept h.rd hg hr hA
    keep := fun E o e => by
      obtain ⟨k1, k2, k3, k4⟩ := h.keep E o e
      exact ⟨(hg.block E (Array.getElem?_eq_some_iff.1 k1).1 (fun e' => hG E o e (Option.some.inj e'))).trans k1, k2, k3, k4⟩
    rr := rr_kept h.rr hg hs hA'
    aA := fun ad e => Nat.lt_of_lt_of_le (h.aA ad e) hg.size
    aA' := fun ad e => Nat.lt_of_lt_of_le (h.aA' ad e) hg.size
    bel := below_gr h.bel hg hD }
end
/-- A read, in plain words. -/
def stepS (l : List Int) (k n : Int) (p : Nat × St) : Nat × St :=
  if k = 0 then (p.1, (byteS l p.1 p.2).2) else if k = 1 then (p.1, (numS l p.1 n p.2).2) else if k = 2 then (p.1, (signS l p.1 p.2).2) else if k = 3 then (p.1, (textS l p.1 p.2).2)
  else if k = 4 then (match (sectS l p.1 (IntKind.u8.wrap n) p.2).1 with | some q => (q.2, (q.1, 0, 0)) | none => (p.1, (sectS l p.1 (IntKind.u8.wrap n) p.2).2))
  else if k = 5 then (p.1, (endS p.1 p.2).2) else if k = 6 then (p.1, failS n p.2) else p
theorem signS_inv {l : List Int} {m : Nat} {s : St} (hb : l.all byteB = true) (hm : m ≤ l.length) (h : InvS m s) : InvS m (signS l m s).2 := (bigS_inv hb hm h).1
theorem stepS_dead {l : List Int} {k n : Int} {p : Nat × St} (h : p.2.2.1 ≠ 0) : stepS l k n p = p := by
  obtain ⟨h1, h2, h3, h4, h5, h6, h7⟩ := dead_stays (l := l) (m := p.1) h
  have h3' : (signS l p.1 p.2).2 = p.2 := h3
  unfold stepS
  rw [h1, h2, h3', h4, h5, h6, h7]
  dsimp only
  repeat' split
  all_goals rfl
theorem gr_cell {w w' : World} {r Q i : Nat} {v : Value} (hg : w.grownBy w' (some r)) (h : w.cell? ⟨Q, i, none⟩ = some v) (hne : Q ≠ r) : w'.cell? ⟨Q, i, none⟩ = some v := by
  rw [← h]
  exact World.cell?_of_block (hg.block Q (World.block_lt_of_cell? w _ h) (fun e => hne (Option.some.inj e)))
/-- What is so behind the program's reader's call, and behind the document's. -/
abbrev StepR (G : Option (Nat × Obj)) (w0 W w' : World) (X : Nat) (l : List Int) (m : Nat) (s1 t : St) (rb sb : Nat) (A : Option Addr) (c : Nat) (A' : Option Addr) (c' : Nat) (v : Value) (x : Ending) (r : Nat) : Prop := x = .returned v ∧ BothW G w0 w' X l m s1 t rb sb A c A' c' ∧ W.grownBy w' (some r)
variable {G : Option (Nat × Obj)}
theorem bothR_Byte (w0 : World) (X : Nat) (l : List Int) (m : Nat) (s t : St) (rb sb : Nat) (A : Option Addr) (c : Nat) (A' : Option Addr) (c' : Nat) (W : World) (h : BothW G w0 W X l m s t rb sb A c A' c') :
    Calls Tryd.prog 84 #[.pointer (some ⟨rb, 0, none⟩)] W fun x w' => StepR G w0 W w' X l m (byteS l m s).2 t rb sb A c A' c' (.int .u8 (byteS l m s).1) x rb := by
  have hf := h.rdf
  have H := h.inv
  exact (wireS_Byte rb A c l m s W h.rd hf H ).mono fun x w' ⟨h1, h2, h3⟩ => ⟨h1, h.rd_ h2 (byteS_inv H) h3, h3⟩
theorem bothS_Byte (w0 : World) (X : Nat) (l : List Int) (m : Nat) (s t : St) (rb sb : Nat) (A : Option Addr) (c : Nat) (A' : Option Addr) (c' : Nat) (W : World) (h : BothW G w0 W X l m t s rb sb A c A' c') :
    Calls Tryd.prog 85 #[.pointer (some ⟨sb, 0, none⟩)] W fun x w' => StepR G w0 W w' X l m t (byteS l m s).2 rb sb A c A' c' (.int .u8 (byteS l m s).1) x sb := by
  have hf := h.rrf
  have H := h.inv'
  exact (refS_Byte sb A' c' l m s W h.rr hf H ).mono fun x w' ⟨h1, h2, h3⟩ => ⟨h1, h.rr_ h2 (byteS_inv H) h3, h3⟩
theorem bothR_Num (w0 : World) (X : Nat) (l : List Int) (m : Nat) (s t : St) (rb sb : Nat) (A : Option Addr) (c : Nat) (A' : Option Addr) (c' : Nat) (n : Int) (hn : n ≤ 9223372036854775807) (W : World) (h : BothW G w0 W X l m s t rb sb A c A' c') :
    Calls Tryd.prog 28 #[.pointer (some ⟨rb, 0, none⟩), .int .i64 n] W fun x w' => StepR G w0 W w' X l m (numS l m n s).2 t rb sb A c A' c' (.int .i64 (numS l m n s).1) x rb := by
  have hf := h.rdf
  have H := h.inv
  exact (wireS_Num rb A c l m s W h.rd hf H n hn).mono fun x w' ⟨h1, h2, h3⟩ => ⟨h1, h.rd_ h2 ((numS_inv hf.byt hf.to_ H).1) h3, h3⟩
theorem bothS_Num (w0 : World) (X : Nat) (l : List Int) (m : Nat) (s t : St) (rb sb : Nat) (A : Option Addr) (c : Nat) (A' : Option Addr) (c' : Nat) (n : Int) (hn : n ≤ 9223372036854775807) (W : World) (h : BothW G w0 W X l m t s rb sb A c A' c') :
    Calls Tryd.prog 86 #[.pointer (some ⟨sb, 0, none⟩), .int .i64 n] W fun x w' => StepR G w0 W w' X l m t (numS l m n s).2 rb sb A c A' c' (.int .i64 (numS l m n s).1) x sb := by
  have hf := h.rrf
  have H := h.inv'
  exact (refS_Num sb A' c' l m s W h.rr hf H n hn).mono fun x w' ⟨h1, h2, h3⟩ => ⟨h1, h.rr_ h2 ((numS_inv hf.byt hf.to_ H).1) h3, h3⟩
theorem bothR_Signed (w0 : World) (X : Nat) (l : List Int) (m : Nat) (s t : St) (rb sb : Nat) (A : Option Addr) (c : Nat) (A' : Option Addr) (c' : Nat) (W : World) (h : BothW G w0 W X l m s t rb sb A c A' c') :
    Calls Tryd.prog 29 #[.pointer (some ⟨rb, 0, none⟩)] W fun x w' => StepR G w0 W w' X l m (signS l m s).2 t rb sb A c A' c' (.int .i64 (signS l m s).1) x rb := by
  have hf := h.rdf
  have H := h.inv
  exact (wireS_Signed rb A c l m s W h.rd hf H ).mono fun x w' ⟨h1, h2, h3⟩ => ⟨h1, h.rd_ h2 (signS_inv hf.byt hf.to_ H) h3, h3⟩
theorem bothS_Signed (w0 : World) (X : Nat) (l : List Int) (m : Nat) (s t : St) (rb sb : Nat) (A : Option Addr) (c : Nat) (A' : Option Addr) (c' : Nat) (W : World) (h : BothW G w0 W X l m t s rb sb A c A' c') :
    Calls Tryd.prog 87 #[.pointer (some ⟨sb, 0, none⟩)] W fun x w' => StepR G w0 W w' X l m t (signS l m s).2 rb sb A c A' c' (.int .i64 (signS l m s).1) x sb := by
  have hf := h.rrf
  have H := h.inv'
  exact (refS_Signed sb A' c' l m s W h.rr hf H ).mono fun x w' ⟨h1, h2, h3⟩ => ⟨h1, h.rr_ h2 (signS_inv hf.byt hf.to_ H) h3, h3⟩
theorem bothR_Text (w0 : World) (X : Nat) (l : List Int) (m : Nat) (s t : St) (rb sb : Nat) (A : Option Addr) (c : Nat) (A' : Option Addr) (c' : Nat) (W : World) (h : BothW G w0 W X l m s t rb sb A c A' c') :
    Calls Tryd.prog 27 #[.pointer (some ⟨rb, 0, none⟩)] W fun x w' => StepR G w0 W w' X l m (textS l m s).2 t rb sb A c A' c' (.string (textS l m s).1) x rb := by
  have hf := h.rdf
  have H := h.inv
  exact (wireS_Text rb A c l m s W h.rd hf H ).mono fun x w' ⟨h1, h2, h3⟩ => ⟨h1, h.rd_ h2 (textS_inv hf.byt hf.to_ H) h3, h3⟩
theorem bothS_Text (w0 : World) (X : Nat) (l : List Int) (m : Nat) (s t : St) (rb sb : Nat) (A : Option Addr) (c : Nat) (A' : Option Addr) (c' : Nat) (W : World) (h : BothW G w0 W X l m t s rb sb A c A' c') :
    Calls Tryd.prog 88 #[.pointer (some ⟨sb, 0, none⟩)] W fun x w' => StepR G w0 W w' X l m t (textS l m s).2 rb sb A c A' c' (.string (textS l m s).1) x sb := by
  have hf := h.rrf
  have H := h.inv'
  exact (refS_Text sb A' c' l m s W h.rr hf H ).mono fun x w' ⟨h1, h2, h3⟩ => ⟨h1, h.rr_ h2 (textS_inv hf.byt hf.to_ H) h3, h3⟩
theorem bothR_End (w0 : World) (X : Nat) (l : List Int) (m : Nat) (s t : St) (rb sb : Nat) (A : Option Addr) (c : Nat) (A' : Option Addr) (c' : Nat) (W : World) (h : BothW G w0 W X l m s t rb sb A c A' c') :
    Calls Tryd.prog 30 #[.pointer (some ⟨rb, 0, none⟩)] W fun x w' => StepR G w0 W w' X l m (endS m s).2 t rb sb A c A' c' (.bool (endS m s).1) x rb := by
  have hf := h.rdf
  have H := h.inv
  exact (wireS_End rb A c l m s W h.rd hf H ).mono fun x w' ⟨h1, h2, h3⟩ => ⟨h1, h.rd_ h2 (endS_inv H) h3, h3⟩
theorem bothS_End (w0 : World) (X : Nat) (l : List Int) (m : Nat) (s t : St) (rb sb : Nat) (A : Option Addr) (c : Nat) (A' : Option Addr) (c' : Nat) (W : World) (h : BothW G w0 W X l m t s rb sb A c A' c') :
    Calls Tryd.prog 90 #[.pointer (some ⟨sb, 0, none⟩)] W fun x w' => StepR G w0 W w' X l m t (endS m s).2 rb sb A c A' c' (.bool (endS m s).1) x sb := by
  have hf := h.rrf
  have H := h.inv'
  exact (refS_End sb A' c' l m s W h.rr hf H ).mono fun x w' ⟨h1, h2, h3⟩ => ⟨h1, h.rr_ h2 (endS_inv H) h3, h3⟩
abbrev readO (k n : Int) : Obj := Obj.cells #[.int .i64 k, .int .i64 n] 52
set_option maxHeartbeats 8000000 in
set_option maxRecDepth 100000 in
theorem read_0 (w0 w : World) (X : Nat) (l : List Int) (m : Nat) (s : St) (rb sb : Nat) (A : Option Addr) (c : Nat) (A' : Option Addr) (c' : Nat) (n : Int) (h : BothW G w0 w X l m s s rb sb A c A' c') :
    Calls Tryd.prog 33 #[.pointer (some ⟨X, 0, none⟩), .agg #[.int .i64 0, .int .i64 n]] w fun e w' => e = .returned (.bool true) ∧ BothW G w0 w' X l m (byteS l m s).2 (byteS l m s).2 rb sb A c A' c' := by
  have H1 := Aside0.mk (fun W h => bothR_Byte (G := G) w0 X l m s s rb sb A c A' c' W h)
  have H2 := Aside0.mk (fun W h => bothS_Byte (G := G) w0 X l m s (byteS l m s).2 rb sb A c A' c' W h)
  obtain ⟨q, hq⟩ : ∃ q, q = byteS l m s := ⟨_, rfl⟩
  rw [← hq] at H1 H2 ⊢
  obtain ⟨x0, x1, -, -⟩ := h.cells
  have HQ := Aside0.mk (show w.heap.size ≠ rb ∧ w.heap.size ≠ sb from ⟨Nat.ne_of_gt (rd_lt h.rd), Nat.ne_of_gt (rr_lt h.rr)⟩)
  have hb1 := h.below (below_drew1 (below_alloc (Below.refl _ w) (readO 0 n)))
  clear h hq
  go_enter Tryd.func33, Tryd.ntmps33
  go_wp2
  go_region_held3 (fun w' => w'.cell? ⟨X, 0, none⟩ = some (.pointer (some ⟨rb, 0, none⟩)) ∧ w'.cell? ⟨X, 1, none⟩ = some (.pointer (some ⟨sb, 0, none⟩))) (first | exact ⟨hb2.cells.1, hb2.cells.2.1⟩ | exact ⟨hb1.cells.1, hb1.cells.2.1⟩) (first | (go_at_call 84; refine (H1.out _ hb1).mono ?_; rintro e w2 ⟨rfl, hb2, hg2⟩) | (go_at_call 85; refine (H2.out _ hb2).mono ?_; rintro e w3 ⟨rfl, hb3, hg3⟩; replace hb2 := hb3))
  go_wp2
  exact bodyPost_ret (results_tmp rfl _ _ _) rfl ⟨by simp, hb2⟩
set_option maxHeartbeats 8000000 in
set_option maxRecDepth 100000 in
theorem read_1 (w0 w : World) (X : Nat) (l : List Int) (m : Nat) (s : St) (rb sb : Nat) (A : Option Addr) (c : Nat) (A' : Option Addr) (c' : Nat) (n : Int) (hn : n ≤ 9223372036854775807) (h : BothW G w0 w X l m s s rb sb A c A' c') :
    Calls Tryd.prog 33 #[.pointer (some ⟨X, 0, none⟩), .agg #[.int .i64 1, .int .i64 n]] w fun e w' => e = .returned (.bool true) ∧ BothW G w0 w' X l m (numS l m n s).2 (numS l m n s).2 rb sb A c A' c' := by
  have H1 := Aside0.mk (fun W h => bothR_Num (G := G) w0 X l m s s rb sb A c A' c' n hn W h)
  have H2 := Aside0.mk (fun W h => bothS_Num (G := G) w0 X l m s (numS l m n s).2 rb sb A c A' c' n hn W h)
  obtain ⟨q, hq⟩ : ∃ q, q = numS l m n s := ⟨_, rfl⟩
  rw [← hq] at H1 H2 ⊢
  obtain ⟨x0, x1, -, -⟩ := h.cells
  have HQ := Aside0.mk (show w.heap.size ≠ rb ∧ w.heap.size ≠ sb from ⟨Nat.ne_of_gt (rd_lt h.rd), Nat.ne_of_gt (rr_lt h.rr)⟩)
  have hb1 := h.below (below_drew1 (below_alloc (Below.refl _ w) (readO 1 n)))
  have hq1 : ((w.alloc (readO 1 n)).drew).cell? ⟨w.heap.size, 1, none⟩ = some (.int .i64 n) := by simp [readO]
  clear h hq
  go_enter Tryd.func33, Tryd.ntmps33
  go_wp2
  go_region_held3 (fun w' => w'.cell? ⟨X, 0, none⟩ = some (.pointer (some ⟨rb, 0, none⟩)) ∧ w'.cell? ⟨X, 1, none⟩ = some (.pointer (some ⟨sb, 0, none⟩)) ∧ w'.cell? ⟨w.heap.size, 1, none⟩ = some (.int .i64 n)) (first | exact ⟨hb2.cells.1, hb2.cells.2.1, hq2⟩ | exact ⟨hb1.cells.1, hb1.cells.2.1, hq1⟩) (first | (go_at_call 28; refine (H1.out _ hb1).mono ?_; rintro e w2 ⟨rfl, hb2, hg2⟩; have hq2 := gr_cell hg2 hq1 HQ.out.1) | (go_at_call 86; refine (H2.out _ hb2).mono ?_; rintro e w3 ⟨rfl, hb3, hg3⟩; replace hb2 := hb3; replace hq2 := gr_cell hg3 hq2 HQ.out.2))
  go_wp2
  exact bodyPost_ret (results_tmp rfl _ _ _) rfl ⟨by simp, hb2⟩
set_option maxHeartbeats 8000000 in
set_option maxRecDepth 100000 in
theorem read_2 (w0 w : World) (X : Nat) (l : List Int) (m : Nat) (s : St) (rb sb : Nat) (A : Option Addr) (c : Nat) (A' : Option Addr) (c' : Nat) (n : Int) (h : BothW G w0 w X l m s s rb sb A c A' c') :
    Calls Tryd.prog 33 #[.pointer (some ⟨X, 0, none⟩), .agg #[.int .i64 2, .int .i64 n]] w fun e w' => e = .returned (.bool true) ∧ BothW G w0 w' X l m (signS l m s).2 (signS l m s).2 rb sb A c A' c' := by
  have H1 := Aside0.mk (fun W h => bothR_Signed (G := G) w0 X l m s s rb sb A c A' c' W h)
  have H2 := Aside0.mk (fun W h => bothS_Signed (G := G) w0 X l m s (signS l m s).2 rb sb A c A' c' W h)
  obtain ⟨q, hq⟩ : ∃ q, q = signS l m s := ⟨_, rfl⟩
  rw [← hq] at H1 H2 ⊢
  obtain ⟨x0, x1, -, -⟩ := h.cells
  have HQ := Aside0.mk (show w.heap.size ≠ rb ∧ w.heap.size ≠ sb from ⟨Nat.ne_of_gt (rd_lt h.rd), Nat.ne_of_gt (rr_lt h.rr)⟩)
  have hb1 := h.below (below_drew1 (below_alloc (Below.refl _ w) (readO 2 n)))
  clear h hq
  go_enter Tryd.func33, Tryd.ntmps33
  go_wp2
  go_region_held3 (fun w' => w'.cell? ⟨X, 0, none⟩ = some (.pointer (some ⟨rb, 0, none⟩)) ∧ w'.cell? ⟨X, 1, none⟩ = some (.pointer (some ⟨sb, 0, none⟩))) (first | exact ⟨hb2.cells.1, hb2.cells.2.1⟩ | exact ⟨hb1.cells.1, hb1.cells.2.1⟩) (first | (go_at_call 29; refine (H1.out _ hb1).mono ?_; rintro e w2 ⟨rfl, hb2, hg2⟩) | (go_at_call 87; refine (H2.out _ hb2).mono ?_; rintro e w3 ⟨rfl, hb3, hg3⟩; replace hb2 := hb3))
  go_wp2
  exact bodyPost_ret (results_tmp rfl _ _ _) rfl ⟨by simp, hb2⟩
set_option maxHeartbeats 8000000 in
set_option maxRecDepth 100000 in
theorem read_3 (w0 w : World) (X : Nat) (l : List Int) (m : Nat) (s : St) (rb sb : Nat) (A : Option Addr) (c : Nat) (A' : Option Addr) (c' : Nat) (n : Int) (h : BothW G w0 w X l m s s rb sb A c A' c') :
    Calls Tryd.prog 33 #[.pointer (some ⟨X, 0, none⟩), .agg #[.int .i64 3, .int .i64 n]] w fun e w' => e = .returned (.bool true) ∧ BothW G w0 w' X l m (textS l m s).2 (textS l m s).2 rb sb A c A' c' := by
  have H1 := Aside0.mk (fun W h => bothR_Text (G := G) w0 X l m s s rb sb A c A' c' W h)
  have H2 := Aside0.mk (fun W h => bothS_Text (G := G) w0 X l m s (textS l m s).2 rb sb A c A' c' W h)
  obtain ⟨q, hq⟩ : ∃ q, q = textS l m s := ⟨_, rfl⟩
  rw [← hq] at H1 H2 ⊢
  obtain ⟨x0, x1, -, -⟩ := h.cells
  have HQ := Aside0.mk (show w.heap.size ≠ rb ∧ w.heap.size ≠ sb from ⟨Nat.ne_of_gt (rd_lt h.rd), Nat.ne_of_gt (rr_lt h.rr)⟩)
  have hb1 := h.below (below_drew1 (below_alloc (Below.refl _ w) (readO 3 n)))
  clear h hq
  go_enter Tryd.func33, Tryd.ntmps33
  go_wp2
  go_region_held3 (fun w' => w'.cell? ⟨X, 0, none⟩ = some (.pointer (some ⟨rb, 0, none⟩)) ∧ w'.cell? ⟨X, 1, none⟩ = some (.pointer (some ⟨sb, 0, none⟩))) (first | exact ⟨hb2.cells.1, hb2.cells.2.1⟩ | exact ⟨hb1.cells.1, hb1.cells.2.1⟩) (first | (go_at_call 27; refine (H1.out _ hb1).mono ?_; rintro e w2 ⟨rfl, hb2, hg2⟩) | (go_at_call 88; refine (H2.out _ hb2).mono ?_; rintro e w3 ⟨rfl, hb3, hg3⟩; replace hb2 := hb3))
  go_wp2
  exact bodyPost_ret (results_tmp rfl _ _ _) rfl ⟨by simp, hb2⟩
set_option maxHeartbeats 8000000 in
set_option maxRecDepth 100000 in
theorem read_5 (w0 w : World) (X : Nat) (l : List Int) (m : Nat) (s : St) (rb sb : Nat) (A : Option Addr) (c : Nat) (A' : Option Addr) (c' : Nat) (n : Int) (h : BothW G w0 w X l m s s rb sb A c A' c') :
    Calls Tryd.prog 33 #[.pointer (some ⟨X, 0, none⟩), .agg #[.int .i64 5, .int .i64 n]] w fun e w' => e = .returned (.bool true) ∧ BothW G w0 w' X l m (endS m s).2 (endS m s).2 rb sb A c A' c' := by
  have H1 := Aside0.mk (fun W h => bothR_End (G := G) w0 X l m s s rb sb A c A' c' W h)
  have H2 := Aside0.mk (fun W h => bothS_End (G := G) w0 X l m s (endS m s).2 rb sb A c A' c' W h)
  obtain ⟨q, hq⟩ : ∃ q, q = endS m s := ⟨_, rfl⟩
  rw [← hq] at H1 H2 ⊢
  obtain ⟨x0, x1, -, -⟩ := h.cells
  have HQ := Aside0.mk (show w.heap.size ≠ rb ∧ w.heap.size ≠ sb from ⟨Nat.ne_of_gt (rd_lt h.rd), Nat.ne_of_gt (rr_lt h.rr)⟩)
  have hb1 := h.below (below_drew1 (below_alloc (Below.refl _ w) (readO 5 n)))
  clear h hq
  go_enter Tryd.func33, Tryd.ntmps33
  go_wp2
  go_region_held3 (fun w' => w'.cell? ⟨X, 0, none⟩ = some (.pointer (some ⟨rb, 0, none⟩)) ∧ w'.cell? ⟨X, 1, none⟩ = some (.pointer (some ⟨sb, 0, none⟩))) (first | exact ⟨hb2.cells.1, hb2.cells.2.1⟩ | exact ⟨hb1.cells.1, hb1.cells.2.1⟩) (first | (go_at_call 30; refine (H1.out _ hb1).mono ?_; rintro e w2 ⟨rfl, hb2, hg2⟩) | (go_at_call 90; refine (H2.out _ hb2).mono ?_; rintro e w3 ⟨rfl, hb3, hg3⟩; replace hb2 := hb3))
  go_wp2
  exact bodyPost_ret (results_tmp rfl _ _ _) rfl ⟨by simp, hb2⟩
theorem bothR_Fail (w0 : World) (X : Nat) (l : List Int) (m : Nat) (s t : St) (rb sb : Nat) (A : Option Addr) (c : Nat) (A' : Option Addr) (c' : Nat) (n : Int) (W : World) (h : BothW G w0 W X l m s t rb sb A c A' c') :
    Calls Tryd.prog 91 #[.pointer (some ⟨rb, 0, none⟩), .int .i64 n] W fun x w' => StepR G w0 W w' X l m (failS n s) t rb sb A c A' c' (.tuple #[]) x rb :=
  (wireS_Fail rb A c l m s W h.rd h.rdf h.inv n).mono fun x w' ⟨h1, h2, h3⟩ => ⟨h1, h.rd_ h2 (failS_inv h.inv) h3, h3⟩
theorem bothS_Fail (w0 : World) (X : Nat) (l : List Int) (m : Nat) (s t : St) (rb sb : Nat) (A : Option Addr) (c : Nat) (A' : Option Addr) (c' : Nat) (n : Int) (W : World) (h : BothW G w0 W X l m t s rb sb A c A' c') :
    Calls Tryd.prog 92 #[.pointer (some ⟨sb, 0, none⟩), .int .i64 n] W fun x w' => StepR G w0 W w' X l m t (failS n s) rb sb A c A' c' (.tuple #[]) x sb :=
  (refS_Fail sb A' c' l m s W h.rr h.rrf h.inv' n).mono fun x w' ⟨h1, h2, h3⟩ => ⟨h1, h.rr_ h2 (failS_inv h.inv') h3, h3⟩
set_option maxHeartbeats 8000000 in
set_option maxRecDepth 100000 in
theorem read_6 (w0 w : World) (X : Nat) (l : List Int) (m : Nat) (s : St) (rb sb : Nat) (A : Option Addr) (c : Nat) (A' : Option Addr) (c' : Nat) (n : Int) (hn0 : -9223372036854775808 ≤ n) (hn : n ≤ 9223372036854775807) (h : BothW G w0 w X l m s s rb sb A c A' c') :
    Calls Tryd.prog 33 #[.pointer (some ⟨X, 0, none⟩), .agg #[.int .i64 6, .int .i64 n]] w fun e w' => e = .returned (.bool true) ∧ BothW G w0 w' X l m (failS n s) (failS n s) rb sb A c A' c' := by
  have H1 := Aside0.mk (fun W h => bothR_Fail (G := G) w0 X l m s s rb sb A c A' c' n W h)
  have H2 := Aside0.mk (fun W h => bothS_Fail (G := G) w0 X l m s (failS n s) rb sb A c A' c' n W h)
  obtain ⟨q, hq⟩ : ∃ q, q = failS n s := ⟨_, rfl⟩
  rw [← hq] at H1 H2 ⊢
  obtain ⟨x0, x1, -, -⟩ := h.cells
  have HQ := Aside0.mk (show w.heap.size ≠ rb ∧ w.heap.size ≠ sb from ⟨Nat.ne_of_gt (rd_lt h.rd), Nat.ne_of_gt (rr_lt h.rr)⟩)
  have hb1 := h.below (below_drew1 (below_alloc (Below.refl _ w) (readO 6 n)))
  have hq1 : ((w.alloc (readO 6 n)).drew).cell? ⟨w.heap.size, 1, none⟩ = some (.int .i64 n) := by simp [readO]
  have hwn : IntKind.i64.wrap n = n := IntWalk.i64_in _ ⟨by omega, by omega⟩
  clear h hq
  go_enter Tryd.func33, Tryd.ntmps33
  go_wp2
  go_region_held3 (fun w' => w'.cell? ⟨X, 0, none⟩ = some (.pointer (some ⟨rb, 0, none⟩)) ∧ w'.cell? ⟨X, 1, none⟩ = some (.pointer (some ⟨sb, 0, none⟩)) ∧ w'.cell? ⟨w.heap.size, 1, none⟩ = some (.int .i64 n)) ((first | exact ⟨hb2.cells.1, hb2.cells.2.1, hq2⟩ | exact ⟨hb1.cells.1, hb1.cells.2.1, hq1⟩)) (first | (go_at_call 91; refine (H1.out _ hb1).mono ?_; rintro e w2 ⟨rfl, hb2, hg2⟩; have hq2 := gr_cell hg2 hq1 HQ.out.1))
  go_wp2
  have hb4 := hb2.below (below_drew1 (Below.refl _ w2))
  have hq4 : w2.drew.cell? ⟨w.heap.size, 1, none⟩ = some (.int .i64 n) := by simp [hq2]
  go_region_held3 (fun w' => w'.cell? ⟨X, 0, none⟩ = some (.pointer (some ⟨rb, 0, none⟩)) ∧ w'.cell? ⟨X, 1, none⟩ = some (.pointer (some ⟨sb, 0, none⟩)) ∧ w'.cell? ⟨w.heap.size, 1, none⟩ = some (.int .i64 n)) ((first | exact ⟨hb3.cells.1, hb3.cells.2.1, hq3⟩ | exact ⟨hb4.cells.1, hb4.cells.2.1, hq4⟩)) (first | (go_at_call 92; refine (H2.out _ hb4).mono ?_; rintro e w3 ⟨rfl, hb3, hg3⟩; have hq3 := gr_cell hg3 hq4 HQ.out.2))
  go_wp2
  exact bodyPost_ret (results_tmp rfl _ _ _) rfl ⟨rfl, hb3⟩
theorem bothR_none (w0 : World) (X : Nat) (l : List Int) (m : Nat) (s t : St) (rb sb : Nat) (A : Option Addr) (c : Nat) (A' : Option Addr) (c' : Nat) (n : Int) (hG : CrcTab w0) (hp : (sectS l m n s).1 = none) (W : World) (h : BothW G w0 W X l m s t rb sb A c A' c') :
    Calls Tryd.prog 19 #[.pointer (some ⟨rb, 0, none⟩), .int .u8 n] W fun x w' => StepR G w0 W w' X l m (sectS l m n s).2 t rb sb A c A' c' (.pointer none) x rb := by
  have := wireS_Section rb A c l m s W h.rd h.rdf h.inv n (hG.below h.bel)
  rw [hp] at this
  exact this.mono fun x w' ⟨h1, h2, h3⟩ => ⟨h1, h.rd_ h2 (sectS_inv h.rdf.byt h.rdf.to_ h.inv).1 h3, h3⟩
theorem bothS_none (w0 : World) (X : Nat) (l : List Int) (m : Nat) (s t : St) (rb sb : Nat) (A : Option Addr) (c : Nat) (A' : Option Addr) (c' : Nat) (n : Int) (hp : (sectS l m n s).1 = none) (W : World) (h : BothW G w0 W X l m t s rb sb A c A' c') :
    Calls Tryd.prog 89 #[.pointer (some ⟨sb, 0, none⟩), .int .u8 n] W fun x w' => StepR G w0 W w' X l m t (sectS l m n s).2 rb sb A c A' c' (.pointer none) x sb := by
  have := refS_Section sb A' c' l m s W h.rr h.rrf h.inv' n
  rw [hp] at this
  exact this.mono fun x w' ⟨h1, h2, h3⟩ => ⟨h1, h.rr_ h2 (sectS_inv h.rrf.byt h.rrf.to_ h.inv').1 h3, h3⟩
theorem bothR_some (w0 : World) (X : Nat) (l : List Int) (m : Nat) (s t : St) (rb sb : Nat) (A : Option Addr) (c : Nat) (A' : Option Addr) (c' : Nat) (n : Int) (hG : CrcTab w0) (p : Nat × Nat) (hp : (sectS l m n s).1 = some p) (W : World) (h : BothW G w0 W X l m s t rb sb A c A' c') :
    Calls Tryd.prog 19 #[.pointer (some ⟨rb, 0, none⟩), .int .u8 n] W fun x w' => ∃ B, StepR G w0 W w' X l m (sectS l m n s).2 t rb sb A c A' c' (.pointer (some ⟨B, 0, none⟩)) x rb ∧ W.heap.size ≤ B ∧ RdS w' B A c l p.2 (p.1, 0, 0) ∧ RdF B A c l p.2 := by
  have := wireS_Section rb A c l m s W h.rd h.rdf h.inv n (hG.below h.bel)
  rw [hp] at this
  exact this.mono fun x w' ⟨⟨B, h1, h2, h3, h4⟩, h5, h6⟩ => ⟨B, ⟨h1, h.rd_ h5 (sectS_inv h.rdf.byt h.rdf.to_ h.inv).1 h6, h6⟩, h2, h3, h4⟩
theorem bothS_some (w0 : World) (X : Nat) (l : List Int) (m : Nat) (s t : St) (rb sb : Nat) (A : Option Addr) (c : Nat) (A' : Option Addr) (c' : Nat) (n : Int) (p : Nat × Nat) (hp : (sectS l m n s).1 = some p) (W : World) (h : BothW G w0 W X l m t s rb sb A c A' c') :
    Calls Tryd.prog 89 #[.pointer (some ⟨sb, 0, none⟩), .int .u8 n] W fun x w' => ∃ B, StepR G w0 W w' X l m t (sectS l m n s).2 rb sb A c A' c' (.pointer (some ⟨B, 0, none⟩)) x sb ∧ W.heap.size ≤ B ∧ RrS w' B A' c' l p.2 (p.1, 0, 0) ∧ RdF B A' c' l p.2 := by
  have := refS_Section sb A' c' l m s W h.rr h.rrf h.inv' n
  rw [hp] at this
  exact this.mono fun x w' ⟨⟨B, h1, h2, h3, h4⟩, h5, h6⟩ => ⟨B, ⟨h1, h.rr_ h5 (sectS_inv h.rrf.byt h.rrf.to_ h.inv').1 h6, h6⟩, h2, h3, h4⟩
set_option maxHeartbeats 8000000 in
set_option maxRecDepth 100000 in
theorem read_4n (w0 w : World) (X : Nat) (l : List Int) (m : Nat) (s : St) (rb sb : Nat) (A : Option Addr) (c : Nat) (A' : Option Addr) (c' : Nat) (n : Int) (hG : CrcTab w0) (hp : (sectS l m (IntKind.u8.wrap n) s).1 = none) (h : BothW G w0 w X l m s s rb sb A c A' c') :
    Calls Tryd.prog 33 #[.pointer (some ⟨X, 0, none⟩), .agg #[.int .i64 4, .int .i64 n]] w fun e w' => e = .returned (.bool true) ∧ BothW G w0 w' X l m (sectS l m (IntKind.u8.wrap n) s).2 (sectS l m (IntKind.u8.wrap n) s).2 rb sb A c A' c' := by
  have H1 := Aside0.mk (fun W h => bothR_none (G := G) w0 X l m s s rb sb A c A' c' (IntKind.u8.wrap n) hG hp W h)
  have H2 := Aside0.mk (fun W h => bothS_none (G := G) w0 X l m s (sectS l m (IntKind.u8.wrap n) s).2 rb sb A c A' c' (IntKind.u8.wrap n) hp W h)
  obtain ⟨q, hq⟩ : ∃ q, q = (sectS l m (IntKind.u8.wrap n) s).2 := ⟨_, rfl⟩
  rw [← hq] at H1 H2 ⊢
  obtain ⟨x0, x1, -, -⟩ := h.cells
  have HQ := Aside0.mk (show w.heap.size ≠ rb ∧ w.heap.size ≠ sb from ⟨Nat.ne_of_gt (rd_lt h.rd), Nat.ne_of_gt (rr_lt h.rr)⟩)
  have hb1 := h.below (below_drew1 (below_alloc (Below.refl _ w) (readO 4 n)))
  have hq1 : ((w.alloc (readO 4 n)).drew).cell? ⟨w.heap.size, 1, none⟩ = some (.int .i64 n) := by simp [readO]
  clear h hq hp
  go_enter Tryd.func33, Tryd.ntmps33
  go_wp2
  go_region_held3 (fun w' => w'.cell? ⟨X, 0, none⟩ = some (.pointer (some ⟨rb, 0, none⟩)) ∧ w'.cell? ⟨X, 1, none⟩ = some (.pointer (some ⟨sb, 0, none⟩)) ∧ w'.cell? ⟨w.heap.size, 1, none⟩ = some (.int .i64 n)) ((first | exact ⟨hb2.cells.1, hb2.cells.2.1, hq2⟩ | exact ⟨hb1.cells.1, hb1.cells.2.1, hq1⟩)) (first | (go_at_call 19; refine (H1.out _ hb1).mono ?_; rintro e w2 ⟨rfl, hb2, hg2⟩; have hq2 := gr_cell hg2 hq1 HQ.out.1) | (go_at_call 89; refine (H2.out _ hb2).mono ?_; rintro e w3 ⟨rfl, hb3, hg3⟩; replace hb2 := hb3; replace hq2 := gr_cell hg3 hq2 HQ.out.2))
  go_wp2
  exact bodyPost_ret (results_tmp rfl _ _ _) rfl ⟨rfl, hb2⟩
end Go.Proofs.YtmlbfepibfobaaaDoor.Hand
end

section
namespace Go.Proofs.YtmlbfepibfobaaaDoor.Hand
open Go.RowKit Go.Proofs.YtmlbfepibfobaaaDoorW.PrintWords Go.Proofs.YtmlbfepibfobaaaDoorW.PrintLast Go.Proofs.YtmlbfepibfobaaaDoorW.PrintMore
set_option linter.unusedVariables false
set_option linter.unusedSimpArgs false

variable {G : Option (Nat × Obj)}
theorem both_new {w0 w w4 : World} {X : Nat} {l : List Int} {m : Nat} {s s1 : St} {rb sb : Nat} {A : Option Addr} {c : Nat} {A' : Option Addr} {c' : Nat} {B B' : Nat} {p : Nat × Nat} (h : BothW G w0 w X l m s s rb sb A c A' c')
    (hB : w.heap.size ≤ B) (hBB : B < B') (hr4 : RdS w4 B A c l p.2 (p.1, 0, 0)) (hq4 : RrS w4 B' A' c' l p.2 (p.1, 0, 0)) (hb4 : BothW G w0 w4 X l m s1 s1 rb sb A c A' c') (hf : RdF B A c l p.2) (hf' : RdF B' A' c' l p.2) (hp : p.1 ≤ p.2 ∧ p.2 ≤ m ∧ 0 < m) :
    BothW G w0 ((w4.setCell ⟨X, 0, none⟩ (.pointer (some ⟨B, 0, none⟩))).setCell ⟨X, 1, none⟩ (.pointer (some ⟨B', 0, none⟩))) X l p.2 (p.1, 0, 0) (p.1, 0, 0) B B' A c A' c' := by
  have hX : X < w.heap.size := h.lt
  have hl : 0 < l.length := Nat.lt_of_lt_of_le hp.2.2 h.rdf.to_
  have a1 : ∀ ad, A = some ad → ad.block < w.heap.size := C_far h.rd.2 hl
  have a2 : ∀ ad, A' = some ad → ad.block < w.heap.size := C_far h.rr.2 hl
  have g1 := wgrown_setCell w4 ⟨X, 0, none⟩ (.pointer (some ⟨B, 0, none⟩))
  have g2 := wgrown_setCell (w4.setCell ⟨X, 0, none⟩ (.pointer (some ⟨B, 0, none⟩))) ⟨X, 1, none⟩ (.pointer (some ⟨B', 0, none⟩))
  have hg := g1.trans g2
  have hw0 : w0.heap.size ≤ w.heap.size := h.bel.size
  have k1 := blk_set hb4.blk 0 (.pointer (some ⟨B, 0, none⟩))
  have k2 := blk_set k1 1 (.pointer (some ⟨B', 0, none⟩))
  simp only [List.setIfInBounds_toArray, List.set_cons_zero, List.set_cons_succ] at k2
  exact {
    blk := k2
    rd := rd_kept hr4 hg (by show B ≠ X; omega) (fun ad e => (h.fA ad e).2)
    rdf := hf
    rr := rr_kept hq4 hg (by show B' ≠ X; omega) (fun ad e => (h.fA' ad e).2)
    rrf := hf'
    inv := ⟨hp.1, fun _ => rfl⟩
    inv' := ⟨hp.1, fun _ => rfl⟩
    ne := by omega
    nX := by omega
    nX' := by omega
    fA := fun ad e => ⟨by have := a1 ad e; omega, (h.fA ad e).2⟩
    fA' := fun ad e => ⟨by have := a2 ad e; omega, (h.fA' ad e).2⟩
    keep := fun D o e => by
      obtain ⟨k1, k2, k3, k4⟩ := hb4.keep D o e
      obtain ⟨q1, _⟩ := h.keep D o e
      have hDl : D < w.heap.size := (Array.getElem?_eq_some_iff.1 q1).1
      exact ⟨(hg.block D (Array.getElem?_eq_some_iff.1 k1).1 (fun e => k4 (Option.some.inj e))).trans k1, by omega, by omega, k4⟩
    aA := fun ad e => Nat.lt_of_lt_of_le (hb4.aA ad e) hg.size
    aA' := fun ad e => Nat.lt_of_lt_of_le (hb4.aA' ad e) hg.size
    bX := h.bX
    br := by omega
    bs := by omega
    bel := below_gr hb4.bel hg h.bX }
set_option maxHeartbeats 8000000 in
set_option maxRecDepth 100000 in
theorem read_4s (w0 w : World) (X : Nat) (l : List Int) (m : Nat) (s : St) (rb sb : Nat) (A : Option Addr) (c : Nat) (A' : Option Addr) (c' : Nat) (n : Int) (hG : CrcTab w0) (p : Nat × Nat) (hp : (sectS l m (IntKind.u8.wrap n) s).1 = some p) (h : BothW G w0 w X l m s s rb sb A c A' c') :
    Calls Tryd.prog 33 #[.pointer (some ⟨X, 0, none⟩), .agg #[.int .i64 4, .int .i64 n]] w fun e w' => e = .returned (.bool true) ∧ ∃ B B', BothW G w0 w' X l p.2 (p.1, 0, 0) (p.1, 0, 0) B B' A c A' c' := by
  have H1 := Aside0.mk (fun W h => bothR_some (G := G) w0 X l m s s rb sb A c A' c' (IntKind.u8.wrap n) hG p hp W h)
  have H2 := Aside0.mk (fun W h => bothS_some (G := G) w0 X l m s (sectS l m (IntKind.u8.wrap n) s).2 rb sb A c A' c' (IntKind.u8.wrap n) p hp W h)
  have HP := Aside0.mk ((sectS_inv h.rdf.byt h.rdf.to_ h.inv).2 p hp)
  obtain ⟨q, hq⟩ : ∃ q, q = (sectS l m (IntKind.u8.wrap n) s).2 := ⟨_, rfl⟩
  rw [← hq] at H1 H2
  obtain ⟨x0, x1, -, -⟩ := h.cells
  have HQ := Aside0.mk (show w.heap.size ≠ rb ∧ w.heap.size ≠ sb from ⟨Nat.ne_of_gt (rd_lt h.rd), Nat.ne_of_gt (rr_lt h.rr)⟩)
  have hb1 := h.below (below_drew1 (below_alloc (Below.refl _ w) (readO 4 n)))
  have hq1 : ((w.alloc (readO 4 n)).drew).cell? ⟨w.heap.size, 1, none⟩ = some (.int .i64 n) := by simp [readO]
  have H0 := Aside0.mk hb1
  clear h hq hp
  go_enter Tryd.func33, Tryd.ntmps33
  go_wp2
  go_region_held3 (fun w' => w'.cell? ⟨X, 0, none⟩ = some (.pointer (some ⟨rb, 0, none⟩)) ∧ w'.cell? ⟨X, 1, none⟩ = some (.pointer (some ⟨sb, 0, none⟩)) ∧ w'.cell? ⟨w.heap.size, 1, none⟩ = some (.int .i64 n)) ((first | exact ⟨hb2.cells.1, hb2.cells.2.1, hq2⟩ | exact ⟨hb1.cells.1, hb1.cells.2.1, hq1⟩)) (first | (go_at_call 19; refine (H1.out _ hb1).mono ?_; rintro e w2 ⟨B, ⟨rfl, hb2, hg2⟩, hB2, hrd2, hrf2⟩; have hq2 := gr_cell hg2 hq1 HQ.out.1; have HB2 := Aside0.mk hb2; have HRd2 := Aside0.mk hrd2; have HRf2 := Aside0.mk hrf2; have HB2' := Aside0.mk hB2; clear hrd2 hrf2 hB2) | (go_at_call 89; refine (H2.out _ hb2).mono ?_; rintro e w3 ⟨B', ⟨rfl, hb3, hg3⟩, hB3, hrd3, hrf3⟩; have HN := Aside0.mk (rd_kept HRd2.out hg3 (Nat.ne_of_gt (Nat.lt_of_lt_of_le (rr_lt H0.out.rr) HB2'.out)) (fun ad e => (HB2.out.fA ad e).1)); have HBB := Aside0.mk (Nat.lt_of_lt_of_le (rd_lt HRd2.out) hB3); have HRd3 := Aside0.mk hrd3; have HRf3 := Aside0.mk hrf3; clear hrd3 hrf3 hB3; replace hb2 := hb3; replace hq2 := gr_cell hg3 hq2 HQ.out.2))
  obtain ⟨y0, y1, z0, z1⟩ := hb2.cells
  go_wp2
  exact bodyPost_ret (results_tmp rfl _ _ _) rfl ⟨rfl, B, B', both_new H0.out HB2'.out HBB.out HN.out HRd3.out hb2 HRf2.out HRf3.out HP.out⟩
set_option maxHeartbeats 8000000 in
set_option maxRecDepth 100000 in
theorem read_d (w0 w : World) (X : Nat) (k n : Int) (h0 : k ≠ 0) (h1 : k ≠ 1) (h2 : k ≠ 2) (h3 : k ≠ 3) (h4 : k ≠ 4) (h5 : k ≠ 5) (h6 : k ≠ 6) :
    Calls Tryd.prog 33 #[.pointer (some ⟨X, 0, none⟩), .agg #[.int .i64 k, .int .i64 n]] w fun e w' => e = .returned (.bool true) ∧ Below w.heap.size w w' := by
  have e0 : (k == 0) = false := beq_eq_false_iff_ne.2 h0
  have e1 : (k == 1) = false := beq_eq_false_iff_ne.2 h1
  have e2 : (k == 2) = false := beq_eq_false_iff_ne.2 h2
  have e3 : (k == 3) = false := beq_eq_false_iff_ne.2 h3
  have e4 : (k == 4) = false := beq_eq_false_iff_ne.2 h4
  have e5 : (k == 5) = false := beq_eq_false_iff_ne.2 h5
  have e6 : (k == 6) = false := beq_eq_false_iff_ne.2 h6
  clear h0 h1 h2 h3 h4 h5 h6
  go_enter Tryd.func33, Tryd.ntmps33
  go_wp2
  exact bodyPost_ret (results_tmp rfl _ _ _) rfl ⟨rfl, below_alloc (Below.refl _ _) _⟩
set_option maxHeartbeats 8000000 in
set_option maxRecDepth 100000 in
theorem both_same (w0 w : World) (X : Nat) (l : List Int) (m : Nat) (s : St) (rb sb : Nat) (A : Option Addr) (c : Nat) (A' : Option Addr) (c' : Nat) (h : BothW G w0 w X l m s s rb sb A c A' c') :
    Calls Tryd.prog 32 #[.pointer (some ⟨X, 0, none⟩)] w fun e w' => e = .returned (.bool true) ∧ BothW G w0 w' X l m s s rb sb A c A' c' := by
  obtain ⟨ix, e, fa⟩ := s
  obtain ⟨x0, x1, -, -⟩ := h.cells
  have HL : Aside0 (m ≤ 140737488351232 ∧ ix ≤ m) := ⟨Nat.le_trans h.rdf.to_ h.rdf.len, h.inv.1⟩
  have hb1 := h.below (below_drew1 (Below.refl _ w))
  have hq : ∀ W : World, (binOp .eql 31 (.agg #[.int .i64 e, .int .i64 fa]) (.agg #[.int .i64 e, .int .i64 fa])).run Tryd.prog W = .ok (.bool true) W := fun W => by rw [fault_eq, beq_self_eq_true, beq_self_eq_true]; rfl
  obtain ⟨lf, hlf⟩ : ∃ lf, lf = (if e = 0 then (m : Int) - ix else 0) := ⟨_, rfl⟩
  have L1 : Aside0 (∀ W, RdW W rb A c l m ix e fa → Calls Tryd.prog 35 #[.pointer (some ⟨rb, 0, none⟩)] W fun x w' => x = .returned (.int .i64 lf) ∧ Drawn0 W w') := ⟨fun W hr => by rw [hlf]; exact wire_Left rb A c l m ix e fa W hr HL.out.1 HL.out.2⟩
  have L2 : Aside0 (∀ W, RrW W sb A' c' l m ix e fa → Calls Tryd.prog 82 #[.pointer (some ⟨sb, 0, none⟩)] W fun x w' => x = .returned (.int .i64 lf) ∧ Drawn0 W w') := ⟨fun W hr => by rw [hlf]; exact ref_Left sb A' c' l m ix e fa W hr HL.out.1 HL.out.2⟩
  clear h hlf
  go_enter Tryd.func32, Tryd.ntmps32
  go_wp2
  go_region_held3 (fun w' => w'.cell? ⟨X, 0, none⟩ = some (.pointer (some ⟨rb, 0, none⟩)) ∧ w'.cell? ⟨X, 1, none⟩ = some (.pointer (some ⟨sb, 0, none⟩))) (exact ⟨hb1.cells.1, hb1.cells.2.1⟩) (first
    | (go_at_call 34; refine (wire_At rb A c l m ix e fa _ hb1.rd).mono ?_; rintro e_ w2 ⟨rfl, rfl⟩)
    | (go_at_call 81; refine (ref_At sb A' c' l m ix e fa _ hb1.rr).mono ?_; rintro e_ w2 ⟨rfl, rfl⟩)
    | (go_at_call 35; refine (L1.out _ hb1.rd).mono ?_; rintro e_ w2 ⟨rfl, hd2⟩; replace hb1 := hb1.below hd2.below)
    | (go_at_call 82; refine (L2.out _ hb1.rr).mono ?_; rintro e_ w2 ⟨rfl, hd2⟩; replace hb1 := hb1.below hd2.below)
    | (go_at_call 20; refine (wire_Fault rb A c l m ix e fa _ hb1.rd).mono ?_; rintro e_ w2 ⟨rfl, hd2⟩; replace hb1 := hb1.below hd2)
    | (go_at_call 83; refine (ref_Fault sb A' c' l m ix e fa _ hb1.rr).mono ?_; rintro e_ w2 ⟨rfl, hd2⟩; replace hb1 := hb1.below hd2))
  go_wp2
  exact bodyPost_ret (results_tmp rfl _ _ _) rfl ⟨by simp, hb1⟩
end Go.Proofs.YtmlbfepibfobaaaDoor.Hand
end

section
namespace Go.Proofs.YtmlbfepibfobaaaDoor.Hand
open Go.RowKit Go.Proofs.YtmlbfepibfobaaaDoorW.PrintWords Go.Proofs.YtmlbfepibfobaaaDoorW.PrintLast Go.Proofs.YtmlbfepibfobaaaDoorW.PrintMore
set_option linter.unusedVariables false
set_option linter.unusedSimpArgs false

variable {G : Option (Nat × Obj)}
theorem both_read (w0 w : World) (X : Nat) (l : List Int) (m : Nat) (s : St) (rb sb : Nat) (A : Option Addr) (c : Nat) (A' : Option Addr) (c' : Nat) (k n : Int) (hG : CrcTab w0) (hn : -9223372036854775808 ≤ n ∧ n < 9223372036854775808) (h : BothW G w0 w X l m s s rb sb A c A' c') :
    Calls Tryd.prog 33 #[.pointer (some ⟨X, 0, none⟩), .agg #[.int .i64 k, .int .i64 n]] w fun e w' => e = .returned (.bool true) ∧ ∃ rb sb, BothW G w0 w' X l (stepS l k n (m, s)).1 (stepS l k n (m, s)).2 (stepS l k n (m, s)).2 rb sb A c A' c' := by
  unfold stepS
  dsimp only
  by_cases h0 : k = 0
  · subst h0
    rw [if_pos rfl]
    exact (read_0 w0 w X l m s rb sb A c A' c' n h).mono fun e w' ⟨h1, h2⟩ => ⟨h1, rb, sb, h2⟩
  rw [if_neg h0]
  by_cases h1 : k = 1
  · subst h1
    rw [if_pos rfl]
    exact (read_1 w0 w X l m s rb sb A c A' c' n (by omega) h).mono fun e w' ⟨h1, h2⟩ => ⟨h1, rb, sb, h2⟩
  rw [if_neg h1]
  by_cases h2 : k = 2
  · subst h2
    rw [if_pos rfl]
    exact (read_2 w0 w X l m s rb sb A c A' c' n h).mono fun e w' ⟨h1, h2⟩ => ⟨h1, rb, sb, h2⟩
  rw [if_neg h2]
  by_cases h3 : k = 3
  · subst h3
    rw [if_pos rfl]
    exact (read_3 w0 w X l m s rb sb A c A' c' n h).mono fun e w' ⟨h1, h2⟩ => ⟨h1, rb, sb, h2⟩
  rw [if_neg h3]
  by_cases h4 : k = 4
  · subst h4
    rw [if_pos rfl]
    cases hp : (sectS l m (IntKind.u8.wrap n) s).1 with
    | none => exact (read_4n w0 w X l m s rb sb A c A' c' n hG hp h).mono fun e w' ⟨h1, h2⟩ => ⟨h1, rb, sb, h2⟩
    | some p => exact (read_4s w0 w X l m s rb sb A c A' c' n hG p hp h).mono fun e w' ⟨h1, B, B', h2⟩ => ⟨h1, B, B', h2⟩
  rw [if_neg h4]
  by_cases h5 : k = 5
  · subst h5
    rw [if_pos rfl]
    exact (read_5 w0 w X l m s rb sb A c A' c' n h).mono fun e w' ⟨h1, h2⟩ => ⟨h1, rb, sb, h2⟩
  rw [if_neg h5]
  by_cases h6 : k = 6
  · subst h6
    rw [if_pos rfl]
    exact (read_6 w0 w X l m s rb sb A c A' c' n hn.1 (by omega) h).mono fun e w' ⟨h1, h2⟩ => ⟨h1, rb, sb, h2⟩
  rw [if_neg h6]
  exact (read_d w0 w X k n h0 h1 h2 h3 h4 h5 h6).mono fun e w' ⟨h1, h2⟩ => ⟨h1, rb, sb, h.below h2⟩
theorem both_open {w w1 w2 : World} {l : List Int} {rb sb : Nat} {A A' : Option Addr} {c c' : Nat} (hB1 : Below w.heap.size w w1) (h1 : w.heap.size ≤ rb) (hr1 : RdW w1 rb A c l l.length 0 0 0) (hf1 : RdF rb A c l l.length) (ha1 : ∀ ad, A = some ad → w.heap.size ≤ ad.block ∧ ad.block < w1.heap.size)
    (hB2 : Below w1.heap.size w1 w2) (h2 : w1.heap.size ≤ sb) (hr2 : RrW w2 sb A' c' l l.length 0 0 0) (hf2 : RdF sb A' c' l l.length) (ha2 : ∀ ad, A' = some ad → w1.heap.size ≤ ad.block ∧ ad.block < w2.heap.size) :
    BothW none w (w2.alloc (.cells #[.pointer (some ⟨rb, 0, none⟩), .pointer (some ⟨sb, 0, none⟩)] 49)) w2.heap.size l l.length (0, 0, 0) (0, 0, 0) rb sb A c A' c' := by
  have l1 := rd_lt hr1
  have l2 := rr_lt hr2
  have s1 := hB1.size
  have s2 := hB2.size
  have hb := below_alloc (Below.refl w2.heap.size w2) (.cells #[.pointer (some ⟨rb, 0, none⟩), .pointer (some ⟨sb, 0, none⟩)] 49)
  exact {
    blk := World.alloc_heap_new _ _
    rd := rd_below (rd_below hr1 hB2) hb
    rdf := hf1
    rr := rr_below hr2 hb
    rrf := hf2
    inv := ⟨Nat.zero_le _, fun _ => rfl⟩
    inv' := ⟨Nat.zero_le _, fun _ => rfl⟩
    ne := by omega
    nX := by omega
    nX' := by omega
    fA := fun ad e => ⟨by have := ha1 ad e; omega, by have := ha1 ad e; omega⟩
    fA' := fun ad e => ⟨by have := ha2 ad e; omega, by have := ha2 ad e; omega⟩
    aA := fun ad e => by have := ha1 ad e; have := hb.size; omega
    aA' := fun ad e => by have := ha2 ad e; have := hb.size; omega
    keep := fun D o e => by cases e
    bX := by omega
    br := h1
    bs := by omega
    bel := below_step (below_step hB1 hB2) hb }
theorem rdRead_get (xs : List SRead) (i : Nat) (hi : i < xs.length) : rdRead xs (i : Int) ∈ xs := by
  unfold rdRead
  rw [Int.toNat_natCast, List.getD_eq_getElem?_getD, List.getElem?_eq_getElem hi]
  exact List.getElem_mem hi
set_option maxHeartbeats 8000000 in
set_option maxRecDepth 100000 in
theorem WireReads_go (A0 : Option Addr) (c0 : Nat) (l : List Int) (A1 : Option Addr) (c1 : Nat) (rs : List SRead) (w : World) (hr0 : Kd.C (Kd.int .u8) w A0 l.length l) (hc0 : l.length ≤ c0) (hb : l.all byteB = true) (hl : l.length ≤ 140737488351232)
    (hr1 : Kd.C kRead w A1 rs.length rs) (hc1 : rs.length ≤ c1) (hm : rs.length ≤ 140737488351232) (hrs : ∀ x ∈ rs, (Lit.int .i64 x.f1).wf = true) (hG : CrcTab w) :
    Calls Tryd.prog 6 #[.slice A0 l.length c0, .slice A1 rs.length c1] w fun e w' => e = .returned (.bool true) ∧ Below w.heap.size w w' := by
  have HG := Aside0.mk hG
  have HO := Aside0.mk (wire_Open A0 c0 l w hr0 hc0 hb hl)
  have HP := Aside0.mk (fun W hB => ref_Open A0 c0 l W (Kd.C_below hr0 hB) hc0 hb hl)
  have HR := Aside0.mk hr1
  have HS := Aside0.mk hrs
  have HM := Aside0.mk hm
  clear hr0 hc0 hb hl hr1 hc1 hrs hG
  go_enter Tryd.func6, Tryd.ntmps6
  go_wp2_with fail
  refine HO.out.mono ?_
  rintro e w1 ⟨⟨rb, A, c, rfl, hg1, hr1, hf1, ha1⟩, hB1⟩
  go_wp2_with fail
  refine (HP.out _ hB1).mono ?_
  rintro e w2 ⟨⟨sb, A', c', rfl, hg2, hr2, hf2, ha2⟩, hB2⟩
  go_wp2_with fail
  have hb := both_open hB1 hg1 hr1 hf1 ha1 hB2 hg2 hr2 hf2 ha2
  obtain ⟨X, hX⟩ : ∃ X, X = w2.heap.size := ⟨_, rfl⟩
  rw [← hX] at hb
  simp only [← hX]
  have HN := Aside0.mk hX
  clear hX hr1 hf1 ha1 hr2 hf2 ha2 hg1 hg2
  refine (secateurlaw03_live.calls true _ (HG.out.below hb.bel) rfl).mono ?_
  rintro e w3 ⟨rfl, hB3⟩
  have hb3 := hb.below hB3
  clear hb
  go_wp2_with fail
  refine (both_same w w3 X l l.length (0, 0, 0) rb sb A c A' c' hb3).mono ?_
  rintro e w4 ⟨rfl, hb4⟩
  have HB4 := Aside0.mk hb4
  clear hb4 hb3 hB3
  go_wp2_with fail
  go_loopw [6] (fun v6 wr => ∃ (i m : Nat) (s : St) (rb sb : Nat), v6 = .int .i64 (i : Int) ∧ i ≤ rs.length ∧ i ≤ 60 ∧ Aside0 (BothW none w wr X l m s s rb sb A c A' c')) (fun v6 _ => rs.length - (intOf v6).toNat)
  case atStart => exact ⟨0, l.length, (0, 0, 0), rb, sb, rfl, Nat.zero_le _, Nat.zero_le _, HB4⟩
  case round =>
    obtain ⟨i, m, s, rb', sb', rfl, hi, hi6, HB⟩ := hrel
    clear HB4
    have hm := HM.out
    by_cases hlt : i < rs.length
    · by_cases hl6 : i < 60
      · have p1 : (0 ≤ (i : Int)) = True := eq_true (by omega)
        have q1 : ((i : Int) < (rs.length : Int)) = True := eq_true (by omega)
        have d1 : decide ((i : Int) < (rs.length : Int)) = true := decide_eq_true (by omega)
        have d2 : decide (i < rs.length) = true := decide_eq_true hlt
        have d3 : decide ((i : Int) < 60) = true := decide_eq_true (by omega)
        have d4 : decide (i < 60) = true := decide_eq_true hl6
        have d5 : decide (0 ≤ (i : Int)) = true := decide_eq_true (by omega)
        obtain ⟨ad, rfl, k0, k1⟩ := atRead (Kd.C_below HR.out HB.out.bel) (i : Int) (by omega) (by omega)
        have HX := Aside0.mk (i64_wf (HS.out _ (rdRead_get rs i hlt)))
        obtain ⟨x, hx⟩ : ∃ x, x = rdRead rs (i : Int) := ⟨_, rfl⟩
        rw [← hx] at k0 k1 HX
        clear hx
        simp only [Int.toNat_natCast] at k0 k1
        have hw : IntKind.i64.wrap ((i : Int) + 1) = ((i + 1 : Nat) : Int) := by rw [IntKind.wrap_i64]; omega
        go_wp2_with fail
        refine (both_read w _ X l m s rb' sb' A c A' c' x.f0 x.f1 HG.out HX.out HB.out).mono ?_
        rintro e w5 ⟨rfl, rb2, sb2, hb5⟩
        have HB5 := Aside0.mk hb5
        clear hb5 k0 k1
        go_wp2_with fail
        refine (both_same w w5 X l _ _ rb2 sb2 A c A' c' HB5.out).mono ?_
        rintro e w6 ⟨rfl, hb6⟩
        have HB6 := Aside0.mk hb6
        clear hb6
        go_wp2
        go_roundw
        case rel => exact ⟨i + 1, _, _, rb2, sb2, by go_num, hlt, hl6, HB6⟩
        case measure => simp [intOf]; omega
      · have d1 : decide ((i : Int) < (rs.length : Int)) = true := decide_eq_true (by omega)
        have d2 : decide (i < rs.length) = true := decide_eq_true hlt
        have d3 : decide ((i : Int) < 60) = false := decide_eq_false (by omega)
        have d4 : decide (i < 60) = false := decide_eq_false hl6
        go_wp2
        go_ret
        exact ⟨rfl, HB.out.bel⟩
    · have d1 : decide ((i : Int) < (rs.length : Int)) = false := decide_eq_false (by omega)
      have d2 : decide (i < rs.length) = false := decide_eq_false hlt
      go_wp2
      go_ret
      exact ⟨rfl, HB.out.bel⟩
theorem WireReads_walk (a0 : Option Addr) (len0 cap0 : Nat) (z0 : List Int) (A1 : Option Addr) (c1 : Nat) (rs : List SRead) (w : World) (w0 : (a0 = none ∧ len0 = 0 ∧ cap0 = 0 ∧ z0 = []) ∨ ∃ x, a0 = some x ∧ len0 ≤ cap0 ∧ cap0 ≤ maxLen ∧ z0.length = cap0 ∧ (∀ i, i < z0.length → w.cell? (x.add i) = some (.int .u8 (z0.getD i 0))) ∧ ∀ n ∈ z0, (Lit.int .u8 n).wf = true) (y0 : len0 * 1 ≤ 140737488351232)
    (hr1 : Kd.C kRead w A1 rs.length rs) (hc1 : rs.length ≤ c1) (hm : rs.length ≤ 140737488351232) (hrs : ∀ x ∈ rs, (Lit.int .i64 x.f1).wf = true) (hG : CrcTab w) :
    Calls Tryd.prog 6 #[.slice a0 len0 cap0, .slice A1 rs.length c1] w fun e w' => e = .returned (.bool true) ∧ Below w.heap.size w w' := by
  obtain ⟨l0, rfl, hr0, hm0, hw0, hc0⟩ := ReadsInt.ofRowC w0
  exact WireReads_go a0 cap0 l0 A1 c1 rs w (Kd.C_of_reads (d := (0 : Int)) (h1 := fun _ => rfl) hr0) hc0 (bytes_wf hw0) (by omega) hr1 hc1 hm hrs hG
end Go.Proofs.YtmlbfepibfobaaaDoor.Hand
end

section
namespace Go.Proofs.YtmlbfepibfobaaaDoor.Hand
open Go.RowKit Go.Proofs.YtmlbfepibfobaaaDoorW.PrintWords Go.Proofs.YtmlbfepibfobaaaDoorW.PrintLast Go.Proofs.YtmlbfepibfobaaaDoorW.PrintMore
set_option linter.unusedVariables false
set_option linter.unusedSimpArgs false

theorem was_kept {w wr : World} {X : Nat} {l : List Int} {m : Nat} {s t : St} {rb sb : Nat} {A : Option Addr} {c : Nat} {A' : Option Addr} {c' : Nat} (h : BothW none w wr X l m s t rb sb A c A' c') (o o' : Obj) :
    BothW (some (wr.heap.size, o)) w (((wr.alloc o).alloc o').drew) X l m s t rb sb A c A' c' ∧ BothW (some (wr.heap.size + 1, o')) w (((wr.alloc o).alloc o').drew) X l m s t rb sb A c A' c' := by
  have hb := h.below (below_drew1 (below_alloc (below_alloc (Below.refl _ wr) o) o'))
  have h1 := rd_lt h.rd
  have h2 := rr_lt h.rr
  have h3 := h.lt
  have e1 : (((wr.alloc o).alloc o').drew).heap[wr.heap.size]? = some o := ((below_drew1 (below_alloc (Below.refl (wr.alloc o).heap.size (wr.alloc o)) o')).block wr.heap.size (by simp)).trans (World.alloc_heap_new wr o)
  have e2 : (((wr.alloc o).alloc o').drew).heap[wr.heap.size + 1]? = some o' := by
    have := World.alloc_heap_new (wr.alloc o) o'
    rw [show (wr.alloc o).heap.size = wr.heap.size + 1 by simp] at this
    exact this
  refine ⟨{ hb with keep := fun D q e => ?_ }, { hb with keep := fun D q e => ?_ }⟩
  · cases e
    exact ⟨e1, by omega, by omega, by omega⟩
  · cases e
    exact ⟨e2, by omega, by omega, by omega⟩
theorem was_cell0 {w : World} {D : Nat} {u v : Value} {t : TypeId} (h : w.heap[D]? = some (Obj.cells #[u, v] t (0, 0))) : w.cell? ⟨D, 0, none⟩ = some u := by
  have h0 := blk_cell h 0
  simpa only [List.getElem?_toArray, List.getElem?_cons_zero, List.getElem?_cons_succ] using h0
theorem was_cell1 {w : World} {D : Nat} {u v : Value} {t : TypeId} (h : w.heap[D]? = some (Obj.cells #[u, v] t (0, 0))) : w.cell? ⟨D, 1, none⟩ = some v := by
  have h0 := blk_cell h 1
  simpa only [List.getElem?_toArray, List.getElem?_cons_zero, List.getElem?_cons_succ] using h0
theorem BothW.none_ {G : Option (Nat × Obj)} {w0 w : World} {X : Nat} {l : List Int} {m : Nat} {s t : St} {rb sb : Nat} {A : Option Addr} {c : Nat} {A' : Option Addr} {c' : Nat} (h : BothW G w0 w X l m s t rb sb A c A' c') : BothW none w0 w X l m s t rb sb A c A' c' := { h with keep := fun D o e => by cases e }
theorem fault_same (a b : Int) (w : World) : (binOp .neq 31 (.agg #[.int .i64 a, .int .i64 b]) (.agg #[.int .i64 a, .int .i64 b])).run Tryd.prog w = .ok (.bool false) w := by
  have h := fault_eq a b a b w
  rw [run_eql_struct] at h
  rw [run_neq_struct]
  rw [beq_self_eq_true, beq_self_eq_true] at h
  cases hx : (Op.equalIn 10000 31 (.agg #[.int .i64 a, .int .i64 b]) (.agg #[.int .i64 a, .int .i64 b])).run Tryd.prog w with
  | ok v w' =>
    rw [hx] at h
    simp only [Result.andThen_ok, Result.ok.injEq, Value.bool.injEq, Bool.and_self] at h ⊢
    rw [h.1, h.2]
    exact ⟨rfl, rfl⟩
  | _ => rw [hx] at h; simp [Result.andThen] at h
set_option maxHeartbeats 8000000 in
set_option maxRecDepth 20000 in
theorem wire_FaultX (b : Nat) (A : Option Addr) (c : Nat) (l : List Int) (m ix : Nat) (e fa : Int) (w : World) (h : RdW w b A c l m ix e fa) :
    Calls Tryd.prog 20 #[.pointer (some ⟨b, 0, none⟩)] w fun x w' => x = .returned (.agg #[.int .i64 e, .int .i64 fa]) ∧ w' = w.alloc (.cells #[.int .i64 e, .int .i64 fa] 31) := by
  have hlt := rd_lt h
  obtain ⟨c0, c1, c2, c3, c4, f1, f3, f4⟩ := rd_cells h
  clear h
  go_enter Tryd.func20, Tryd.ntmps20
  go_wp2
  exact ⟨rfl, .agg #[.int .i64 e, .int .i64 fa], by simp [results, Tryd.results20, go_sem], rfl, rfl⟩
set_option maxHeartbeats 8000000 in
set_option maxRecDepth 100000 in
theorem WireStays_go (A0 : Option Addr) (c0 : Nat) (l : List Int) (A1 : Option Addr) (c1 : Nat) (rs : List SRead) (w : World) (hr0 : Kd.C (Kd.int .u8) w A0 l.length l) (hc0 : l.length ≤ c0) (hb : l.all byteB = true) (hl : l.length ≤ 140737488351232)
    (hr1 : Kd.C kRead w A1 rs.length rs) (hc1 : rs.length ≤ c1) (hm : rs.length ≤ 140737488351232) (hrs : ∀ x ∈ rs, (Lit.int .i64 x.f1).wf = true) (hG : CrcTab w) :
    Calls Tryd.prog 7 #[.slice A0 l.length c0, .slice A1 rs.length c1] w fun e w' => e = .returned (.bool true) ∧ Below w.heap.size w w' := by
  have HG := Aside0.mk hG
  have HO := Aside0.mk (wire_Open A0 c0 l w hr0 hc0 hb hl)
  have HP := Aside0.mk (fun W hB => ref_Open A0 c0 l W (Kd.C_below hr0 hB) hc0 hb hl)
  have HR := Aside0.mk hr1
  have HS := Aside0.mk hrs
  have HM := Aside0.mk hm
  clear hr0 hc0 hb hl hr1 hc1 hrs hG
  go_enter Tryd.func7, Tryd.ntmps7
  go_wp2_with fail
  refine HO.out.mono ?_
  rintro e w1 ⟨⟨rb, A, c, rfl, hg1, hr1, hf1, ha1⟩, hB1⟩
  go_wp2_with fail
  refine (HP.out _ hB1).mono ?_
  rintro e w2 ⟨⟨sb, A', c', rfl, hg2, hr2, hf2, ha2⟩, hB2⟩
  go_wp2_with fail
  have hb := both_open hB1 hg1 hr1 hf1 ha1 hB2 hg2 hr2 hf2 ha2
  obtain ⟨X, hX⟩ : ∃ X, X = w2.heap.size := ⟨_, rfl⟩
  rw [← hX] at hb
  simp only [← hX]
  have HN := Aside0.mk hX
  clear hX hr1 hf1 ha1 hr2 hf2 ha2 hg1 hg2
  refine (secateurlaw03_live.calls true _ (HG.out.below hb.bel) rfl).mono ?_
  rintro e w3 ⟨rfl, hB3⟩
  have hb3 := hb.below hB3
  clear hb
  go_wp2_with fail
  have HB4 := Aside0.mk hb3
  clear hb3 hB3
  go_loopw [6] (fun v6 wr => ∃ (i m : Nat) (s : St) (rb sb : Nat), v6 = .int .i64 (i : Int) ∧ i ≤ rs.length ∧ i ≤ 60 ∧ Aside0 (BothW none w wr X l m s s rb sb A c A' c')) (fun v6 _ => rs.length - (intOf v6).toNat)
  case atStart => exact ⟨0, l.length, (0, 0, 0), rb, sb, rfl, Nat.zero_le _, Nat.zero_le _, HB4⟩
  case round =>
    obtain ⟨i, m, s, rb', sb', rfl, hi, hi6, HB⟩ := hrel
    clear HB4
    have hm := HM.out
    by_cases hlt : i < rs.length
    · by_cases hl6 : i < 60
      · have p1 : (0 ≤ (i : Int)) = True := eq_true (by omega)
        have q1 : ((i : Int) < (rs.length : Int)) = True := eq_true (by omega)
        have d1 : decide ((i : Int) < (rs.length : Int)) = true := decide_eq_true (by omega)
        have d2 : decide (i < rs.length) = true := decide_eq_true hlt
        have d3 : decide ((i : Int) < 60) = true := decide_eq_true (by omega)
        have d4 : decide (i < 60) = true := decide_eq_true hl6
        have d5 : decide (0 ≤ (i : Int)) = true := decide_eq_true (by omega)
        obtain ⟨ad, rfl, k0, k1⟩ := atRead (Kd.C_below HR.out HB.out.bel) (i : Int) (by omega) (by omega)
        have HX := Aside0.mk (i64_wf (HS.out _ (rdRead_get rs i hlt)))
        obtain ⟨x, hx⟩ : ∃ x, x = rdRead rs (i : Int) := ⟨_, rfl⟩
        rw [← hx] at k0 k1 HX
        have HXE := Aside0.mk hx
        clear hx
        simp only [Int.toNat_natCast] at k0 k1
        have hw : IntKind.i64.wrap ((i : Int) + 1) = ((i + 1 : Nat) : Int) := by rw [IntKind.wrap_i64]; omega
        have hb := HB.out.below (below_drew1 (Below.refl _ wr))
        have HB1 := Aside0.mk hb
        go_wp2_with fail
        go_cut [7, 8] from 17 to 92 (fun v7 v8 wc => ∃ D, v7 = .pointer (some ⟨D, 0, none⟩) ∧ v8 = .int .i64 (s.1 : Int) ∧ Aside0 (BothW (some (D, Obj.cells #[.int .i64 s.2.1, .int .i64 s.2.2] 31 (0, 0))) w wc X l m s s rb' sb' A c A' c'))
        case first =>
          go_region_held3 (fun w' => w'.cell? ⟨X, 0, none⟩ = some (.pointer (some ⟨rb', 0, none⟩))) ((first | exact hb.cells.1 | exact (hb.below (below_alloc (Below.refl _ _) _)).cells.1 | exact (hb.below (below_alloc (below_alloc (Below.refl _ _) _) _)).cells.1)) (first
            | (go_at_call 34; refine (wire_At rb' A c l m s.1 s.2.1 s.2.2 _ ?hr).mono ?_; (case hr => first | exact hb.rd | exact (hb.below (below_alloc (Below.refl _ _) _)).rd | exact (hb.below (below_alloc (below_alloc (Below.refl _ _) _) _)).rd); rintro e_ w5 ⟨rfl, rfl⟩)
            | (go_at_call 20; refine (wire_FaultX rb' A c l m s.1 s.2.1 s.2.2 _ ?hr).mono ?_; (case hr => first | exact hb.rd | exact (hb.below (below_alloc (Below.refl _ _) _)).rd); rintro e_ w5 ⟨rfl, rfl⟩))
          all_goals (go_wp2; go_meet; first | exact ⟨wr.heap.size, rfl, rfl, ⟨(was_kept HB.out _ _).1⟩⟩ | exact ⟨wr.heap.size + 1, rfl, rfl, ⟨(was_kept HB.out _ _).2⟩⟩)
        case rest =>
          obtain ⟨D, rfl, rfl, HW⟩ := hcut
          clear hb k0 k1 HB HB1
          obtain ⟨ad', had, k0, k1⟩ := atRead (Kd.C_below HR.out HW.out.bel) (i : Int) (by omega) (by omega)
          cases had
          have hx' : rdRead rs (i : Int) = x := HXE.out.symm
          rw [hx'] at k0 k1
          simp only [Int.toNat_natCast] at k0 k1
          obtain ⟨m2, s2, hst⟩ : ∃ m2 s2, stepS l x.f0 x.f1 (m, s) = (m2, s2) := ⟨_, _, rfl⟩
          have HR' := both_read w _ X l m s rb' sb' A c A' c' x.f0 x.f1 HG.out HX.out HW.out
          rw [hst] at HR'
          dsimp only at HR'
          have HD : Aside0 (s.2.1 ≠ 0 → s2 = s) := ⟨fun h => by
            have := stepS_dead (l := l) (k := x.f0) (n := x.f1) (p := (m, s)) h
            rw [hst] at this
            exact (Prod.mk.inj this).2⟩
          clear hst
          go_wp2_with fail
          refine HR'.mono ?_
          rintro e w5 ⟨rfl, rb2, sb2, hb5⟩
          have HB5 := Aside0.mk hb5
          obtain ⟨y0, -, -, -⟩ := hb5.cells
          have hm2 := hb5.rdf.to_
          have hi2 := hb5.inv.1
          have hl2 := hb5.rdf.len
          have g1 : decide ((s2.1 : Int) < 0) = false := decide_eq_false (by omega)
          have g2 : decide ((s2.1 : Int) > (l.length : Int)) = false := decide_eq_false (by omega)
          have g3 : decide ((l.length : Int) < (s2.1 : Int)) = false := decide_eq_false (by omega)
          have g4 : decide (l.length < s2.1) = false := decide_eq_false (by omega)
          obtain ⟨lf, hlf⟩ : ∃ lf, lf = (if s2.2.1 = 0 then (m2 : Int) - s2.1 else 0) := ⟨_, rfl⟩
          have hlf1 : lf ≤ (l.length : Int) := by rw [hlf]; split <;> omega
          have g5 : decide (lf > (l.length : Int)) = false := decide_eq_false (by omega)
          have g6 : decide ((l.length : Int) < lf) = false := decide_eq_false (by omega)
          have L1 : Aside0 (∀ W, RdW W rb2 A c l m2 s2.1 s2.2.1 s2.2.2 → Calls Tryd.prog 35 #[.pointer (some ⟨rb2, 0, none⟩)] W fun x w' => x = .returned (.int .i64 lf) ∧ Drawn0 W w') := ⟨fun W hr => by rw [hlf]; exact wire_Left rb2 A c l m2 s2.1 s2.2.1 s2.2.2 W hr (by omega) hi2⟩
          clear hlf hlf1 hm2 hi2 hl2 hb5 HR' k0 k1
          go_wp2_with fail
          refine (wire_At rb2 A c l m2 s2.1 s2.2.1 s2.2.2 w5 HB5.out.rd).mono ?_
          rintro e w6 ⟨rfl, rfl⟩
          go_wp2_with fail
          refine (wire_At rb2 A c l m2 s2.1 s2.2.1 s2.2.2 _ HB5.out.rd).mono ?_
          rintro e w6 ⟨rfl, rfl⟩
          go_wp2_with fail
          refine (L1.out _ HB5.out.rd).mono ?_
          rintro e w7 ⟨rfl, hd7⟩
          have hb7 := HB5.out.below hd7.below
          have HB7 := Aside0.mk hb7
          go_wp2_with fail
          have hb8 := hb7.below (below_drew1 (Below.refl _ w7))
          obtain ⟨z0, -, -, -⟩ := hb8.cells
          obtain ⟨kD, -⟩ := hb8.keep D _ rfl
          have zd0 := blk_cell kD 0
          have zd1 := blk_cell kD 1
          simp only [List.getElem?_toArray, List.getElem?_cons_zero, List.getElem?_cons_succ] at zd0 zd1
          by_cases he : s.2.1 = 0
          · rw [he] at zd0
            have HB8 := Aside0.mk hb7
            clear HW HB7 hb7
            have zd2 : w7.cell? ⟨D, 0, none⟩ = some (.int .i64 0) := by simpa using zd0
            go_quiet (fail)
            go_wp2
            go_roundw
            case rel => exact ⟨i + 1, m2, s2, rb2, sb2, by go_num, hlt, hl6, ⟨(HB8.out.below (pw_below_drewN (Below.refl _ w7) nq)).none_⟩⟩
            case measure => simp [intOf]; omega
          · obtain rfl := HD.out he
            have he' : (s2.2.1 != 0) = true := by simp [he]
            have he2 : (s2.2.1 == 0) = false := beq_eq_false_iff_ne.2 he
            have hne : ∀ W : World, (binOp .neq 29 (.int .i64 s2.2.1) (.int .i64 0)).run Tryd.prog W = .ok (.bool true) W := fun W => by go_simp
            have hq : ∀ W : World, (binOp .neq 31 (.agg #[.int .i64 s2.2.1, .int .i64 s2.2.2]) (.agg #[.int .i64 s2.2.1, .int .i64 s2.2.2])).run Tryd.prog W = .ok (.bool false) W := fun W => fault_same s2.2.1 s2.2.2 W
            clear HW HB7 hb7
            go_region_held3 (fun w' => w'.cell? ⟨X, 0, none⟩ = some (.pointer (some ⟨rb2, 0, none⟩)) ∧ w'.cell? ⟨D, 0, none⟩ = some (.int .i64 s2.2.1) ∧ w'.cell? ⟨D, 1, none⟩ = some (.int .i64 s2.2.2)) (exact ⟨z0, zd0, zd1⟩) (first
              | (go_at_call 34; refine (wire_At rb2 A c l m2 s2.1 s2.2.1 s2.2.2 _ hb8.rd).mono ?_; rintro e_ w9 ⟨rfl, rfl⟩)
              | (go_at_call 20; refine (wire_Fault rb2 A c l m2 s2.1 s2.2.1 s2.2.2 _ hb8.rd).mono ?_; rintro e_ w9 ⟨rfl, hd9⟩; replace hb8 := hb8.below hd9; replace z0 := hb8.cells.1; replace kD := (hb8.keep D _ rfl).1; replace zd0 := was_cell0 kD; replace zd1 := was_cell1 kD))
            go_wp2
            go_roundw
            case rel => exact ⟨i + 1, m2, s2, rb2, sb2, by go_num, hlt, hl6, ⟨hb8.none_⟩⟩
            case measure => simp [intOf]; omega
      · have d1 : decide ((i : Int) < (rs.length : Int)) = true := decide_eq_true (by omega)
        have d2 : decide (i < rs.length) = true := decide_eq_true hlt
        have d3 : decide ((i : Int) < 60) = false := decide_eq_false (by omega)
        have d4 : decide (i < 60) = false := decide_eq_false hl6
        go_wp2
        go_ret
        exact ⟨rfl, HB.out.bel⟩
    · have d1 : decide ((i : Int) < (rs.length : Int)) = false := decide_eq_false (by omega)
      have d2 : decide (i < rs.length) = false := decide_eq_false hlt
      go_wp2
      go_ret
      exact ⟨rfl, HB.out.bel⟩
theorem WireStays_walk (a0 : Option Addr) (len0 cap0 : Nat) (z0 : List Int) (A1 : Option Addr) (c1 : Nat) (rs : List SRead) (w : World) (w0 : (a0 = none ∧ len0 = 0 ∧ cap0 = 0 ∧ z0 = []) ∨ ∃ x, a0 = some x ∧ len0 ≤ cap0 ∧ cap0 ≤ maxLen ∧ z0.length = cap0 ∧ (∀ i, i < z0.length → w.cell? (x.add i) = some (.int .u8 (z0.getD i 0))) ∧ ∀ n ∈ z0, (Lit.int .u8 n).wf = true) (y0 : len0 * 1 ≤ 140737488351232)
    (hr1 : Kd.C kRead w A1 rs.length rs) (hc1 : rs.length ≤ c1) (hm : rs.length ≤ 140737488351232) (hrs : ∀ x ∈ rs, (Lit.int .i64 x.f1).wf = true) (hG : CrcTab w) :
    Calls Tryd.prog 7 #[.slice a0 len0 cap0, .slice A1 rs.length c1] w fun e w' => e = .returned (.bool true) ∧ Below w.heap.size w w' := by
  obtain ⟨l0, rfl, hr0, hm0, hw0, hc0⟩ := ReadsInt.ofRowC w0
  exact WireStays_go a0 cap0 l0 A1 c1 rs w (Kd.C_of_reads (d := (0 : Int)) (h1 := fun _ => rfl) hr0) hc0 (bytes_wf hw0) (by omega) hr1 hc1 hm hrs hG
end Go.Proofs.YtmlbfepibfobaaaDoor.Hand
end

section
/- Openings of arguments that are slices of strings. -/
namespace Go.Proofs.YtmlbfepibfobaaaDoor.Hand
open Go.ChangeShapes Go.WideShapes Go.ChangeAt Go.RowKit Go.Proofs.YtmlbfepibfobaaaDoorW.PrintWords Go.Proofs.YtmlbfepibfobaaaDoorW.PrintLast Go.Proofs.YtmlbfepibfobaaaDoorW.PrintMore
section
variable {H : Type} {enc : TypeId × Value → H} {P : Program} {w : World} {base : Nat} {spare : Nat → Bool} {held : Bool}
theorem open_strRow {r : Reach} {b0 : Nat} {t e : TypeId} {v : Value} {d : DataW H} {ps : List MemPlace} (ht : P.underlying t = some (.slice e)) (he : P.underlying e = some .string) (hc : P.cellsOf e = 1)
    (hval : Value.okWide P w r b0 t v) (hd : DataW.Trod enc P w base spare held t v d ps) :
    ∃ (A : Option Addr) (cap : Nat) (l : List ByteArray), v = .slice A l.length cap ∧ l.length ≤ cap ∧ Kd.C Kd.string w A l.length l ∧ l.length ≤ 9223372036854775807 := by
  obtain ⟨a, len, cap, rfl⟩ := okWide_slice ht hval
  obtain ⟨fuel, hf⟩ := hd
  rcases open_strings ht he hc hf with ⟨hcs, _⟩ | ⟨x, l, c, ss, hcs, _, hl, hm, hz, _, hcell, _⟩
  · simp [Value.cells] at hcs
    obtain ⟨rfl, rfl, rfl⟩ := hcs
    exact ⟨none, 0, [], rfl, Nat.le_refl _, Kd.C_nil _ _, by decide⟩
  · simp [Value.cells] at hcs
    obtain ⟨rfl, rfl, rfl⟩ := hcs
    have hls : len ≤ ss.length := by rw [hz]; split <;> omega
    have hlen : (ss.take len).length = len := by rw [List.length_take]; omega
    have hmx : len ≤ 9223372036854775807 := by unfold maxLen at hm; omega
    refine ⟨some x, cap, ss.take len, by rw [hlen], by rw [hlen]; exact hl, ?_, by rw [hlen]; exact hmx⟩
    rw [hlen]
    refine Kd.C_of_reads (d := ByteArray.empty) (h1 := fun _ => rfl) ⟨hlen, hmx, fun _ => ⟨x, rfl, fun j hj => ?_⟩⟩
    rw [hcell j (by omega)]
    congr 2
    simp [List.getD, hj]
end
end Go.Proofs.YtmlbfepibfobaaaDoor.Hand
end

section
/- Openings of arguments that are slices of structs, of any number of cells. -/
namespace Go.Proofs.YtmlbfepibfobaaaDoor.HandN
open Go.ChangeShapes Go.WideShapes Go.ChangeAt Go.Joins Go.Deep Go.RowKit Go.Proofs.YtmlbfepibfobaaaDoorW.PrintWords Go.Proofs.YtmlbfepibfobaaaDoorW.PrintLast Go.Proofs.YtmlbfepibfobaaaDoorW.PrintMore
theorem list_each {α : Type} {Q : Nat → α → Prop} : ∀ (n : Nat), (∀ i, i < n → ∃ a, Q i a) → ∃ l : List α, l.length = n ∧ ∀ i a, l[i]? = some a → Q i a
  | 0, _ => ⟨[], rfl, fun i a h => by simp at h⟩
  | n + 1, h => by
    obtain ⟨l, hl, hq⟩ := list_each n fun i hi => h i (by omega)
    obtain ⟨a, ha⟩ := h n (by omega)
    refine ⟨l ++ [a], by simp [hl], fun i b hb => ?_⟩
    by_cases hi : i < l.length
    · rw [List.getElem?_append_left hi] at hb
      exact hq i b hb
    · rw [List.getElem?_append_right (by omega)] at hb
      have h0 : i - l.length = 0 := by
        have := (List.getElem?_eq_some_iff.1 hb).1
        simp at this
        omega
      rw [h0] at hb
      simp at hb
      have : i = n := by omega
      rw [this, ← hb]
      exact ha
theorem add_add (a : Addr) (i j : Nat) : (a.add i).add j = a.add (i + j) := by
  unfold Addr.add
  by_cases hi : i = 0
  · subst hi; simp
  · by_cases hj : j = 0
    · subst hj; simp
    · rw [if_neg hi, if_neg hj, if_neg (by omega), Nat.add_assoc]
theorem cells_each {w : World} {base n : Nat} {a : Addr} {cs : List Value} (h : w.cells? base a n = some cs) : cs.length = n ∧ ∀ j u, cs[j]? = some u → w.cell? (a.add j) = some u := by
  unfold World.cells? at h
  split at h
  · have hl := mapM_some_length h
    rw [List.length_range] at hl
    refine ⟨hl, fun j u hu => ?_⟩
    have hj := (List.getElem?_eq_some_iff.1 hu).1
    have hg := mapM_some_get h j j (by rw [List.getElem?_range (by omega)])
    rw [hg, hu]
  · cases h
section
variable {H : Type} {enc : TypeId × Value → H} {P : Program} {w : World} {base : Nat} {spare : Nat → Bool} {held : Bool}
theorem weights_all {t : TypeId} : ∀ {l : List (DataW H)} {d : DataW H}, d ∈ l → ∀ n ∈ d.weights P t, n ∈ DataW.weightsAll P t l
  | a :: l, d, hd, n, hn => by
    simp only [DataW.weightsAll, List.mem_append]
    rcases List.mem_cons.1 hd with rfl | hd
    · exact .inl hn
    · exact .inr (weights_all hd n hn)
theorem open_rowsN {α : Type} (kd : Kd α) (Q : α → Prop) (sz : Nat) (hs : kd.sz = sz) {t e : TypeId} {v : Value} {d : DataW H} {ps : List MemPlace} {r : Reach} {b0 : Nat}
    (ht : P.underlying t = some (.slice e)) (hc : P.cellsOf e = sz) (hB : 1 ≤ P.bytesOf e)
    (mk : ∀ n cs x, DataW.trod enc P w base spare held n e cs = some x → (∀ m ∈ x.1.weights P e, m ≤ reachBytes) → ∃ a : α, kd.K w a cs ∧ Q a)
    (hw : ∀ n ∈ d.weights P t, n ≤ reachBytes)
    (hval : Value.okWide P w r b0 t v) (hd : DataW.Trod enc P w base spare held t v d ps) :
    ∃ (A : Option Addr) (cap : Nat) (l : List α), v = .slice A l.length cap ∧ l.length ≤ cap ∧ Kd.C kd w A l.length l ∧ l.length ≤ 140737488351232 ∧ ∀ x ∈ l, Q x := by
  obtain ⟨a, len, cap, rfl⟩ := okWide_slice ht hval
  obtain ⟨fuel, hf⟩ := hd
  rcases DataW.trod_slice ht hf with ⟨hcs, _⟩ | ⟨x, l, c, elems, rest, n, _, hcs, hx, hb, hl, hm, hlen, hel, _, _⟩
  · simp [Value.cells] at hcs
    obtain ⟨rfl, rfl, rfl⟩ := hcs
    exact ⟨none, 0, [], rfl, Nat.le_refl _, ⟨rfl, Nat.zero_le _, fun h => absurd h (Nat.lt_irrefl 0)⟩, Nat.zero_le _, by simp⟩
  · simp [Value.cells] at hcs
    obtain ⟨rfl, rfl, rfl⟩ := hcs
    obtain ⟨hx, _⟩ := Prod.mk.inj hx
    subst hx
    have hlw : len ≤ 140737488351232 := by
      have h1 := hw ((elems.map (·.1)).length * P.bytesOf e + (rest.map (·.1)).length * P.bytesOf e) (by simp [DataW.weights, ht, Nat.add_mul])
      rw [List.length_map, hlen] at h1
      have h2 : len * 1 ≤ len * P.bytesOf e := Nat.mul_le_mul_left _ hB
      have h3 : reachBytes = 140737488351232 := rfl
      omega
    have each : ∀ i, i < len → ∃ y : α, Q y ∧ ∃ cs : List Value, cs.length = sz ∧ kd.K w y cs ∧ ∀ j u, cs[j]? = some u → w.cell? (x.add (i * sz + j)) = some u := by
      intro i hi
      have h1 := hel i hi
      have hi2 : i < elems.length := by omega
      rw [List.getElem?_eq_getElem hi2, hc, Option.bind_eq_some_iff] at h1
      obtain ⟨cs, h2, h3⟩ := h1
      obtain ⟨y, h4, h5⟩ := mk _ _ _ h3 (fun m hm => hw m (by
        simp only [DataW.weights, ht, List.mem_cons, List.mem_append]
        exact .inr (.inl (weights_all (List.mem_map_of_mem (List.getElem_mem hi2)) m hm))))
      obtain ⟨h6, h7⟩ := cells_each h2
      refine ⟨y, h5, cs, h6, h4, fun j z hz => ?_⟩
      have h8 := h7 j z hz
      rw [add_add] at h8
      exact h8
    obtain ⟨ls, hls, hq⟩ := list_each len each
    have hmx : len ≤ 9223372036854775807 := by omega
    refine ⟨some x, cap, ls, by rw [hls], by rw [hls]; exact hl, ⟨rfl, by rw [hls]; exact hmx, fun _ => ⟨x, rfl, fun j p hp => ?_⟩⟩, by rw [hls]; exact hlw, fun y hy => ?_⟩
    · obtain ⟨_, cs, h1, h2, h3⟩ := hq j p hp
      exact ⟨cs, by rw [hs]; exact h1, h2, fun i u hu => by rw [hs]; exact h3 i u hu⟩
    · obtain ⟨i, hi⟩ := List.getElem?_of_mem hy
      exact (hq i y hi).1
end
end Go.Proofs.YtmlbfepibfobaaaDoor.HandN
end

section
/- Openings of arguments that are slices of reads. -/
namespace Go.Proofs.YtmlbfepibfobaaaDoor.HandN
open Go.ChangeShapes Go.WideShapes Go.ChangeAt Go.Joins Go.Deep Go.RowKit Go.Proofs.YtmlbfepibfobaaaDoorW.PrintWords Go.Proofs.YtmlbfepibfobaaaDoorW.PrintLast Go.Proofs.YtmlbfepibfobaaaDoorW.PrintMore Go.Proofs.YtmlbfepibfobaaaDoor.Hand
section
variable {H : Type} {enc : TypeId × Value → H} {P : Program} {w : World} {base : Nat} {spare : Nat → Bool} {held : Bool}
theorem mk_read {e : TypeId} {f0 f1 : Field} (he : P.underlying e = some (.struct #[f0, f1])) (hc : P.cellsOf e = 2) (o0 : f0.offset = 0) (o1 : f1.offset = 1) (z0 : P.cellsOf f0.type = 1) (z1 : P.cellsOf f1.type = 1)
    (h0 : P.underlying f0.type = some (.int .i64)) (h1 : P.underlying f1.type = some (.int .i64)) (n : Nat) (cs : List Value) (x : DataW H × List MemPlace) (h : DataW.trod enc P w base spare held n e cs = some x) :
    ∃ a : SRead, kRead.K w a cs ∧ (Lit.int .i64 a.f1).wf = true := by
  obtain ⟨y0, y1, m, hx, hl, g0, g1⟩ := trod_struct2 he h
  rw [o0, z0, List.drop_zero] at g0
  rw [o1, z1] at g1
  rw [hc] at hl
  match cs, hl with
  | [u, v], _ =>
    obtain ⟨k, hk, hy0, _⟩ := DataW.trod_int h0 g0
    obtain ⟨s, hs, hy1, hz⟩ := DataW.trod_int h1 g1
    simp at hk hs
    subst hk hs hx hy0 hy1
    exact ⟨⟨k, s⟩, kRead_mk w ⟨k, s⟩, hz⟩
end
end Go.Proofs.YtmlbfepibfobaaaDoor.HandN
end
