import Derived.Test.YtcbakmojhicahaaMgKs0
import Derived.Test.YtcbakmojhicahaaProg
import Derived.Below
import Derived.Deep.Draws
import Derived.Deep.AppendLies
import Derived.Maps.AppendAt
import Derived.OwnWalk
import Derived.Laws.BytesArg
import Derived.Laws.MakeOwn
import Derived.Laws.OwnMore
import Derived.Deep.OwnRows
import Derived.Tactics
import Derived.Lib.ConvBytes
import Derived.Laws.Slices
import Derived.WalkKit
import Derived.KernelRfl
import Derived.RowKit3
import Derived.Deep.LoopGhost
import Derived.Deep.QuietTactic
import Derived.BigQuiet
import Derived.WideLaws
import Derived.Deep.DeepCutAuto
import Derived.Deep.CutBlock
import Derived.Deep.RegionHeld3
import Derived.Laws.Rows
import Derived.Lib.AppendStr
import Derived.ArgAppend
import Derived.Laws.IdiomCopy
import Derived.OrdersHeld
import Derived.Laws.BitsLemmas
import Derived.RowKit
import Derived.Test.YtcbakmojhicahaaWWords
import Derived.Test.YtcbakmojhicahaaWLast
import Derived.Test.YtcbakmojhicahaaWTab
import Derived.Test.YtcbakmojhicahaaWFour
import Derived.Test.YtcbakmojhicahaaWQPut
import Derived.Test.YtcbakmojhicahaaWApart
import Derived.Test.YtcbakmojhicahaaWArr
import Derived.Test.YtcbakmojhicahaaWZeros
import Derived.Test.YtcbakmojhicahaaWFoot
import Derived.Test.YtcbakmojhicahaaWKept
import Derived.Test.YtcbakmojhicahaaWShare
import Derived.Test.YtcbakmojhicahaaWN
import Derived.Test.YtcbakmojhicahaaWFootNe
import Derived.Test.YtcbakmojhicahaaWAt
import Derived.Test.YtcbakmojhicahaaWEqStruct
import Derived.Test.YtcbakmojhicahaaWRepsOne
import Derived.Test.YtcbakmojhicahaaWInv
import Derived.Test.YtcbakmojhicahaaWInvWords
import Derived.Test.YtcbakmojhicahaaWGuard
import Derived.Test.YtcbakmojhicahaaWNEv
import Derived.Test.YtcbakmojhicahaaWMore
import Derived.Test.YtcbakmojhicahaaRows
import Derived.OpenShut
import Derived.SliceStrings
import Derived.ProofKit
import Derived.ChangeSame
import Derived.Lib.SmallJoins
import Derived.SizedLaws
import Derived.JoinedCond
section
namespace Go.Proofs.Ytcbakmojhicahaa.Hand
open Go.RowKit Go.Shelf Go.Proofs.YtcbakmojhicahaaW.PrintWords Go.Proofs.YtcbakmojhicahaaW.PrintLast Go.Proofs.YtcbakmojhicahaaW.PrintMore
set_option linter.unusedVariables false
set_option linter.unusedSimpArgs false

def toS (t : Ty) : S54 := ⟨t.1, lb t.2⟩
/-- The old blocks but two are as they were. -/
structure Keep2 (W w : World) (p q : Nat) : Prop where
  os : w.os = W.os
  tape : w.tape = W.tape
  output : w.output = W.output
  size : W.heap.size ≤ w.heap.size
  block : ∀ k, k < W.heap.size → k ≠ p → k ≠ q → w.heap[k]? = W.heap[k]?
theorem Keep2.grown {W w w' : World} {p q : Nat} {r : Option Nat} (h : Keep2 W w p q) (hg : w.grownBy w' r) (hr : ∀ k, r = some k → k = p ∨ k = q ∨ W.heap.size ≤ k) : Keep2 W w' p q :=
  ⟨hg.os.trans h.os, hg.tape.trans h.tape, hg.output.trans h.output, Nat.le_trans h.size hg.size, fun k hk hp hq => (hg.block k (Nat.lt_of_lt_of_le hk h.size) (fun e => by rcases hr k e.symm with e1 | e1 | e1; exact hp e1; exact hq e1; omega)).trans (h.block k hk hp hq)⟩
theorem Keep2.refl (W : World) (p q : Nat) : Keep2 W W p q := ⟨rfl, rfl, rfl, Nat.le_refl _, fun _ _ _ _ => rfl⟩
theorem one_right {l : List UInt8} {t : Ty} {r : List UInt8} (h : oneT classL l = some (t, r)) : rightT classL t = true := by
  cases l with
  | nil => cases h
  | cons x l =>
    unfold oneT at h
    dsimp only at h
    by_cases e : x = 91
    · rw [if_pos e] at h
      exact (flat_back2 h).1
    · rw [if_neg e] at h
      exact (flat_back0 h).1
theorem one_short {l : List UInt8} {t : Ty} {r : List UInt8} (h : oneT classL l = some (t, r)) : t.2.length + r.length < l.length := by
  obtain ⟨h1, h2⟩ := one_back h
  obtain ⟨k, c⟩ := t
  have : c.length < (textT classL (k, c)).length := by
    unfold textT
    rw [if_pos h1]
    rcases right_cases h1 with ⟨e1, e2⟩ | ⟨e1, e2⟩ | ⟨e1, e2⟩ | ⟨e1, e2⟩ | ⟨e1, e2⟩ <;> simp only at e1 e2 <;> subst e1 <;> simp [*] <;> omega
  rw [h2]
  simp
  omega
theorem scan_drawnB {w w' : World} {b : Nat} {s : ByteArray} {i : Nat} (h : Scan w b s i) (hd : Below w.heap.size w w') : Scan w' b s i := by
  unfold Scan at h ⊢
  rw [hd.block b (Array.getElem?_eq_some_iff.1 h).1]
  exact h
/-- What is left behind a type is the text's own end. -/
theorem one_drop {s : ByteArray} {i : Nat} {t : Ty} {r : List UInt8} (h : oneT classL ((bl s).drop i) = some (t, r)) : (bl s).drop (s.size - r.length) = r := by
  obtain ⟨h1, h2⟩ := one_back h
  have h3 : (bl s).take i ++ textT classL t ++ r = bl s := by rw [List.append_assoc, ← h2, List.take_append_drop]
  have h4 := congrArg List.length h3
  rw [List.length_append, bl_len] at h4
  rw [← h3, List.drop_append_of_le_length (by rw [← h4]; omega), List.drop_of_length_le (by rw [← h4]; omega), List.nil_append]
/-- What stands in the closure's boxes. -/
structure SplitW (W : World) (bp br : Nat) (wr : World) (ps : List Ty) (v : Value) : Prop where
  box : Boxed wr bp 61 v
  row : Kd.R k54 54 wr (W.heap.size + 1) (fun k => W.heap.size < k) v (ps.map toS)
  ret : ∃ t, TyAt wr br t
  keep : Keep2 W wr bp br
  big : W.heap.size + 1 ≤ wr.heap.size
/-- Ahead of the loop's test. -/
structure SplitI (W : World) (bp br : Nat) (s : ByteArray) (l0 : List UInt8) (k : Nat) (wr : World) (i : Nat) (ps : List Ty) (v : Value) : Prop where
  scan : Scan wr W.heap.size s i
  le : i ≤ s.size
  base : SplitW W bp br wr ps v
  so : typesF classL 65 l0 = (typesF classL k ((bl s).drop i)).map fun p => (ps ++ p.1, p.2)
  cnt : ps.length + k = 65
  adv : ps.length + 1 ≤ i
theorem SplitW.step {W wr w1 : World} {bp br : Nat} {ps : List Ty} {v : Value} (h : SplitW W bp br wr ps v) (hbp : bp < W.heap.size) (hbr : br < W.heap.size) (hg : wr.grownBy w1 (some W.heap.size)) : SplitW W bp br w1 ps v where
  box := h.box.kept hg (by simp; omega)
  row := Kd.R_grown h.row hg (fun k hk => by simp; omega)
  ret := h.ret.imp fun t ht => ty_kept ht hg (by simp; omega)
  keep := h.keep.grown hg (by simp)
  big := Nat.le_trans h.big hg.size
theorem Keep2.max {W w : World} {p q : Nat} (h : Keep2 W w p q) (hM : MaxL W) (hp : (0 : Nat) ≠ p) (hq : (0 : Nat) ≠ q) : MaxL w := by
  obtain ⟨m, hm⟩ := hM
  have hl := World.block_lt_of_cell? W _ hm
  refine ⟨m, ?_⟩
  rw [← hm]
  unfold World.cell?
  rw [h.block _ hl hp hq]
/-- What the closure of Split comes to. -/
def endQ (W : World) (bp br : Nat) (q : List Ty × Ty × Int) (x : Ending) (w' : World) : Prop :=
  Keep2 W w' bp br ∧ (∃ t, TyAt w' br t) ∧ (∃ v, Boxed w' bp 61 v) ∧ if q.2.2 = 0 then x = .returned (.tuple #[]) ∧ TyAt w' br q.2.1 ∧ ∃ v, Boxed w' bp 61 v ∧ Kd.R k54 54 w' (W.heap.size + 1) (fun _ => True) v (q.1.map toS)
    else x = .panicked (WrongE q.2.2)
theorem SplitW.panic {W w : World} {bp br : Nat} {ps : List Ty} {v : Value} (h : SplitW W bp br w ps v) {q : List Ty × Ty × Int} {e : Int} (hq : q = ([], (0, []), e)) (he : e ≠ 0) : endQ W bp br q (.panicked (WrongE e)) w := by
  subst hq
  refine ⟨h.keep, h.ret, ⟨_, h.box⟩, ?_⟩
  rw [if_neg he]
theorem SplitW.setRet {W w : World} {bp br : Nat} {ps : List Ty} {v : Value} (h : SplitW W bp br w ps v) (hbr : br < W.heap.size) (hpr : bp ≠ br) (k : Int) (c : List UInt8) :
    SplitW W bp br ((w.setCell ⟨br, 0, none⟩ (.int .i64 k)).setCell ⟨br, 1, none⟩ (.string (lb c))) ps v ∧ TyAt ((w.setCell ⟨br, 0, none⟩ (.int .i64 k)).setCell ⟨br, 1, none⟩ (.string (lb c))) br (k, c) := by
  obtain ⟨t0, ht0⟩ := h.ret
  have hty := ty_set ht0 k c
  have hg : w.grownBy ((w.setCell ⟨br, 0, none⟩ (.int .i64 k)).setCell ⟨br, 1, none⟩ (.string (lb c))) (some br) := (scan_setCell w ⟨br, 0, none⟩ _).trans (scan_setCell _ ⟨br, 1, none⟩ _)
  exact ⟨{ box := h.box.kept hg (by simpa using hpr)
           row := Kd.R_grown h.row hg (fun k hk => by simp; omega)
           ret := ⟨_, hty⟩
           keep := h.keep.grown hg (by simp)
           big := Nat.le_trans h.big hg.size }, hty⟩
theorem infoTy : (Try.prog.info? 54).map (fun i => (i.zero, i.size, i.bytes)) = some (some (.agg #[(.int .i64 0), (.string ⟨#[]⟩)]), 2, 24) := by kernel_rfl
theorem SplitW.push {W w w5 : World} {bp br : Nat} {ps : List Ty} {v v1 : Value} {t : Ty} (h : SplitW W bp br w ps v) (hbp : bp < W.heap.size) (hbr : br < W.heap.size) (hpr : bp ≠ br) (hg : w.grownBy w5 v.ownBlock)
    (ho : Kd.R k54 54 w5 (W.heap.size + 1) (fun k => W.heap.size < k) v1 (ps.map toS ++ [toS t])) : Boxed w5 bp 61 v ∧ SplitW W bp br (w5.setCell ⟨bp, 0, none⟩ v1) (ps ++ [t]) v1 := by
  have hv : ∀ k, v.ownBlock = some k → W.heap.size < k := fun k hk => h.row.1 k hk
  have hb := h.box.kept hg (fun e => by have := hv bp e.symm; omega)
  refine ⟨hb, {
    box := hb.set v1
    row := by
      rw [List.map_append]
      exact Kd.R_grown ho (grownBy_setCell' w5 bp v1) (fun k hk => by simp; omega)
    ret := h.ret.imp fun t0 ht => ty_kept (ty_kept ht hg (fun e => by have := hv br e.symm; omega)) (grownBy_setCell' w5 bp v1) (by simpa using hpr.symm)
    keep := (h.keep.grown hg (fun k hk => .inr (.inr (Nat.le_of_lt (hv k hk))))).grown (grownBy_setCell' w5 bp v1) (by simp)
    big := by have := hg.size; have := h.big; simp; omega }⟩
theorem scan_push {W w w5 : World} {bp br : Nat} {ps : List Ty} {v v1 : Value} {s : ByteArray} {i : Nat} (h : SplitW W bp br w ps v) (hs : Scan w W.heap.size s i) (hbp : bp < W.heap.size) (hg : w.grownBy w5 v.ownBlock) : Scan (w5.setCell ⟨bp, 0, none⟩ v1) W.heap.size s i := by
  have hv : ∀ k, v.ownBlock = some k → W.heap.size < k := fun k hk => h.row.1 k hk
  refine scan_far ?_ (by simp; omega) _
  unfold Scan at hs ⊢
  rw [hg.block W.heap.size (Array.getElem?_eq_some_iff.1 hs).1 (fun e => by have := hv _ e.symm; omega)]
  exact hs
theorem ty_new (w : World) (k : Int) (c : List UInt8) : TyAt (w.alloc (.cells #[.int .i64 k, .string (lb c)] 54)) w.heap.size (k, c) := World.alloc_heap_new _ _
set_option maxHeartbeats 16000000 in
set_option maxRecDepth 20000 in
theorem split_body (bs bp br : Nat) (s : ByteArray) (W : World) (hs : W.cell? ⟨bs, 0, none⟩ = some (.string s)) (hP : Boxed W bp 61 (.slice none 0 0)) (hT : TyAt W br (0, [])) (hM : MaxL W) (hgp : (0 : Nat) ≠ bp) (hgr : (0 : Nat) ≠ br) (hpr : bp ≠ br) (hm : s.size ≤ 64) :
    Calls Try.prog 94 #[.pointer (some ⟨bs, 0, none⟩), .pointer (some ⟨bp, 0, none⟩), .pointer (some ⟨br, 0, none⟩)] W (endQ W bp br (splitD classL (bl s))) := by
  have hbr : br < W.heap.size := (Array.getElem?_eq_some_iff.1 hT).1
  have hbp : bp < W.heap.size := (Array.getElem?_eq_some_iff.1 hP).1
  have hS0 : Scan (W.alloc (.cells #[.string s, .int .i64 0] 131)) W.heap.size s 0 := World.alloc_heap_new _ _
  have hM0 := max_alloc hM (.cells #[.string s, .int .i64 0] 131)
  have hT0 := ty_kept hT (World.grownBy_alloc W (.cells #[.string s, .int .i64 0] 131) none) (by simp)
  have hP0 := hP.alloc (.cells #[.string s, .int .i64 0] 131)
  have hK0 : Keep2 W (W.alloc (.cells #[.string s, .int .i64 0] 131)) bp br := (Keep2.refl W bp br).grown (World.grownBy_alloc W _ none) (by simp)
  have hgs : (0 : Nat) < W.heap.size := by
    obtain ⟨m, hmm⟩ := hM
    exact World.block_lt_of_cell? W _ hmm
  have HMX := Aside0.mk hM
  have hlen : ¬ (bl s).length > 64 := by rw [bl_len]; omega
  have HW0 : Aside0 (SplitW W bp br (W.alloc (.cells #[.string s, .int .i64 0] 131)) [] (.slice none 0 0)) := ⟨{
    box := hP0
    row := Kd.R_nil _ _ _ _ _
    ret := ⟨_, hT0⟩
    keep := hK0
    big := by simp }⟩
  by_cases he : s.size = 0
  · have hb0 : bl s = [] := by
      have := bl_len s
      rw [he] at this
      exact List.length_eq_zero_iff.1 this
    have HQ : Aside0 (splitD classL (bl s) = ([], (0, []), 1)) := ⟨by rw [hb0]; rfl⟩
    have HB := Aside0.mk (scan_byte_none W.heap.size s 0 _ hS0 (by omega) (by omega))
    clear hS0 hM0 hT0 hP0 hK0 hb0
    go_enter Try.func94, Try.ntmps94
    go_wp2_with (go_at_call 96; refine HB.out.mono ?_; rintro e w1 ⟨rfl, hg1⟩)
    exact ⟨rfl, (HW0.out.step hbp hbr hg1).panic HQ.out (by decide)⟩
  · have hlt : 0 < s.size := by omega
    have hd : bl s = s[0] :: (bl s).drop 1 := by have := drop_cons s 0 hlt; rwa [List.drop_zero] at this
    obtain ⟨x, hx⟩ : ∃ x, s[0] = x := ⟨_, rfl⟩
    have HB := Aside0.mk (scan_byte_some W.heap.size s 0 _ hS0 hlt (by omega))
    rw [hx] at HB hd
    have HD := Aside0.mk hd
    clear hx
    by_cases hx : x = 40
    · subst hx
      have hsp : Aside0 (splitD classL (bl s) = match typesF classL 65 ((bl s).drop 1) with
        | some (ps, r) => (match oneT classL r with
          | some (t, []) => if ps.length ≤ 8 then (ps, t, 0) else ([], (0, []), 3)
          | _ => ([], (0, []), 1))
        | none => ([], (0, []), 1)) := ⟨by
          have hh : (bl s).head? = some 40 := by rw [hd]; rfl
          have ht : (bl s).tail = (bl s).drop 1 := by simp
          unfold splitD
          rw [if_neg hlen, if_pos hh, ht]
          rfl⟩
      clear hd
      have HI : Aside0 (∀ w1, (W.alloc (.cells #[.string s, .int .i64 0] 131)).grownBy w1 (some W.heap.size) → Scan w1 W.heap.size s 1 → SplitI W bp br s ((bl s).drop 1) 65 w1 1 [] (.slice none 0 0)) := ⟨fun w1 hg hs1 => {
        scan := hs1
        le := by omega
        base := {
          box := hP0.kept hg (by simp; omega)
          row := Kd.R_nil _ _ _ _ _
          ret := ⟨_, ty_kept hT0 hg (by simp; omega)⟩
          keep := hK0.grown hg (by simp)
          big := by have := hg.size; simp at this; omega }
        so := by cases typesF classL 65 ((bl s).drop 1) <;> simp
        cnt := rfl
        adv := by simp }⟩
      clear hS0 hM0 hT0 hP0 hK0
      go_enter Try.func94, Try.ntmps94
      go_wp2_with (first | (go_at_call 96; refine HB.out.mono ?_; rintro e w1 ⟨rfl, hs1, hg1⟩; have HI1 := Aside0.mk (HI.out w1 hg1 hs1)) | (go_at_call 95; refine (kind_unless _ _).mono ?_; rintro e w2 ⟨rfl, rfl⟩))
      go_loopg [4] 65 (fun kq v4 wr => ∃ i ps v, Aside0 (SplitI W bp br s ((bl s).drop 1) kq wr i ps v))
      case atStart => exact ⟨1, [], .slice none 0 0, ⟨HI1.out⟩⟩
      case round =>
        obtain ⟨i, ps, v, HJ⟩ := hrel
        obtain ⟨gj, rfl⟩ : ∃ j, gk = j + 1 := ⟨gk - 1, by have h1 := HJ.out.cnt; have h2 := HJ.out.adv; have h3 := HJ.out.le; omega⟩
        have HO0 : ∀ W', MaxL W' → Scan W' W.heap.size s i → Calls Try.prog 88 #[.pointer (some ⟨W.heap.size, 0, none⟩)] W' (endS W.heap.size s W' (oneT classL ((bl s).drop i))) := fun W' hM' hS' => scan_one W.heap.size s i W' hM' (by omega) hS' HJ.out.le (by omega)
        by_cases hi : i < s.size
        · have hd := drop_cons s i hi
          have HSee := Aside0.mk (scan_sees_some W.heap.size s i 41 wr HJ.out.scan hi (by omega))
          obtain ⟨y, hy⟩ : ∃ y, s[i] = y := ⟨_, rfl⟩
          rw [hy] at hd HSee
          by_cases hy41 : y = 41
          · subst hy41
            have hso : typesF classL 65 ((bl s).drop 1) = some (ps, (bl s).drop (i + 1)) := by
              have h1 := HJ.out.so
              rw [hd] at h1
              rw [h1]
              simp [typesF]
            have HQ0 := Aside0.mk (hsp.out.trans (by rw [hso]))
            have HO1 : ∀ W', MaxL W' → Scan W' W.heap.size s (i + 1) → Calls Try.prog 88 #[.pointer (some ⟨W.heap.size, 0, none⟩)] W' (endS W.heap.size s W' (oneT classL ((bl s).drop (i + 1)))) := fun W' hM' hS' => scan_one W.heap.size s (i + 1) W' hM' (by omega) hS' (by omega) (by omega)
            clear hd hso HO0
            cases ho : oneT classL ((bl s).drop (i + 1)) with
            | none =>
              rw [ho] at HO1
              have HQ : Aside0 (splitD classL (bl s) = ([], (0, []), 1)) := ⟨HQ0.out.trans (by dsimp only; rw [ho])⟩
              have HO := Aside0.mk HO1
              clear HO1 ho
              go_wp2_with (first | (go_at_call 97; refine HSee.out.mono ?_; rintro e w1 ⟨rfl, hD1⟩; have HW1 := Aside0.mk (HJ.out.base.step hbp hbr (grown_of_below hD1.below _)); have HS1 := Aside0.mk (scan_drawn HJ.out.scan hD1)) | (go_at_call 96; refine (scan_byte_some W.heap.size s i _ HS1.out hi (by omega)).mono ?_; rintro e w2 ⟨rfl, hs2, hg2⟩; have HW2 := Aside0.mk (HW1.out.step hbp hbr hg2); have HS2 := Aside0.mk hs2; clear hs2) | (go_at_call 88; refine (HO.out _ (HW2.out.keep.max HMX.out hgp hgr) HS2.out).mono ?_; rintro e w3 ⟨hg3, rfl⟩; have HW3 := Aside0.mk (HW2.out.step hbp hbr hg3)))
              exact ⟨rfl, HW3.out.panic HQ.out (by decide)⟩
            | some p =>
              obtain ⟨⟨k, c⟩, r⟩ := p
              rw [ho] at HO1
              have hsh := one_short ho
              rw [List.length_drop, bl_len] at hsh
              dsimp only at hsh
              have HO := Aside0.mk HO1
              cases r with
              | cons z r =>
                have HQ : Aside0 (splitD classL (bl s) = ([], (0, []), 1)) := ⟨HQ0.out.trans (by dsimp only; rw [ho])⟩
                have HRL : Aside0 (s.size - (z :: r).length ≠ s.size) := ⟨by simp at hsh ⊢; omega⟩
                clear HO1 ho hsh
                go_wp2_with (first | (go_at_call 97; refine HSee.out.mono ?_; rintro e w1 ⟨rfl, hD1⟩; have HW1 := Aside0.mk (HJ.out.base.step hbp hbr (grown_of_below hD1.below _)); have HS1 := Aside0.mk (scan_drawn HJ.out.scan hD1)) | (go_at_call 96; refine (scan_byte_some W.heap.size s i _ HS1.out hi (by omega)).mono ?_; rintro e w2 ⟨rfl, hs2, hg2⟩; have HW2 := Aside0.mk (HW1.out.step hbp hbr hg2); have HS2 := Aside0.mk hs2; clear hs2) | (go_at_call 88; refine (HO.out _ (HW2.out.keep.max HMX.out hgp hgr) HS2.out).mono ?_; rintro e w3 ⟨hg3, rfl, hs3⟩; have HW3 := Aside0.mk (HW2.out.step hbp hbr hg3); have HS3 := Aside0.mk hs3; clear hs3; obtain ⟨t0, ht0⟩ := HW3.out.ret; obtain ⟨c0, c1, f0, f1⟩ := ty_cells ht0) | (go_at_call 89; refine (scan_done_not W.heap.size s _ _ (scan_far (scan_far HS3.out (p := ⟨br, 0, none⟩) (by simp; omega) _) (p := ⟨br, 1, none⟩) (by simp; omega) _) HRL.out).mono ?_; rintro e w4 ⟨rfl, hg4⟩))
                exact ⟨rfl, ((HW3.out.setRet hbr hpr k c).1.step hbp hbr hg4).panic HQ.out (by decide)⟩
              | nil =>
                have HQ1 : Aside0 (splitD classL (bl s) = if ps.length ≤ 8 then (ps, (k, c), 0) else ([], (0, []), 3)) := ⟨HQ0.out.trans (by dsimp only; rw [ho])⟩
                clear HO1 ho hsh
                by_cases h8 : ps.length ≤ 8
                · have HQ : Aside0 (splitD classL (bl s) = (ps, (k, c), 0)) := ⟨HQ1.out.trans (if_pos h8)⟩
                  have hd8 : decide ((ps.length : Int) ≤ 8) = true := decide_eq_true (by omega)
                  have hd9 : decide (ps.length ≤ 8) = true := decide_eq_true h8
                  go_wp2_with (first | (go_at_call 97; refine HSee.out.mono ?_; rintro e w1 ⟨rfl, hD1⟩; have HW1 := Aside0.mk (HJ.out.base.step hbp hbr (grown_of_below hD1.below _)); have HS1 := Aside0.mk (scan_drawn HJ.out.scan hD1)) | (go_at_call 96; refine (scan_byte_some W.heap.size s i _ HS1.out hi (by omega)).mono ?_; rintro e w2 ⟨rfl, hs2, hg2⟩; have HW2 := Aside0.mk (HW1.out.step hbp hbr hg2); have HS2 := Aside0.mk hs2; clear hs2) | (go_at_call 88; refine (HO.out _ (HW2.out.keep.max HMX.out hgp hgr) HS2.out).mono ?_; rintro e w3 ⟨hg3, rfl, hs3⟩; have HW3 := Aside0.mk (HW2.out.step hbp hbr hg3); have HS3 := Aside0.mk hs3; clear hs3; obtain ⟨t0, ht0⟩ := HW3.out.ret; obtain ⟨c0, c1, f0, f1⟩ := ty_cells ht0) | (go_at_call 89; refine (scan_done W.heap.size s _ _ (scan_far (scan_far HS3.out (p := ⟨br, 0, none⟩) (by simp; omega) _) (p := ⟨br, 1, none⟩) (by simp; omega) _) (by simp)).mono ?_; rintro e w4 ⟨rfl, hD4⟩; have HW4 := Aside0.mk ((HW3.out.setRet hbr hpr k c).1.step hbp hbr (grown_of_below hD4.below _)); have HT4 := Aside0.mk (ty_kept (HW3.out.setRet hbr hpr k c).2 (grown_of_below hD4.below none) (by simp)); obtain ⟨A, cp, hv⟩ := Kd.R_slice HW4.out.row; have hbx := HW4.out.box.cell; rw [hv] at hbx) | (go_at_call 95; refine (kind_unless _ _).mono ?_; rintro e w5 ⟨rfl, rfl⟩))
                  go_end0
                  refine ⟨HW4.out.keep, HW4.out.ret, ⟨_, HW4.out.box⟩, ?_⟩
                  rw [HQ.out, if_pos rfl]
                  exact ⟨rfl, HT4.out, _, HW4.out.box, Kd.R_mono HW4.out.row (fun _ _ => trivial)⟩
                · have HQ : Aside0 (splitD classL (bl s) = ([], (0, []), 3)) := ⟨HQ1.out.trans (if_neg h8)⟩
                  have hd8 : decide ((ps.length : Int) ≤ 8) = false := decide_eq_false (by omega)
                  have hd9 : decide (ps.length ≤ 8) = false := decide_eq_false h8
                  go_wp2_with (first | (go_at_call 97; refine HSee.out.mono ?_; rintro e w1 ⟨rfl, hD1⟩; have HW1 := Aside0.mk (HJ.out.base.step hbp hbr (grown_of_below hD1.below _)); have HS1 := Aside0.mk (scan_drawn HJ.out.scan hD1)) | (go_at_call 96; refine (scan_byte_some W.heap.size s i _ HS1.out hi (by omega)).mono ?_; rintro e w2 ⟨rfl, hs2, hg2⟩; have HW2 := Aside0.mk (HW1.out.step hbp hbr hg2); have HS2 := Aside0.mk hs2; clear hs2) | (go_at_call 88; refine (HO.out _ (HW2.out.keep.max HMX.out hgp hgr) HS2.out).mono ?_; rintro e w3 ⟨hg3, rfl, hs3⟩; have HW3 := Aside0.mk (HW2.out.step hbp hbr hg3); have HS3 := Aside0.mk hs3; clear hs3; obtain ⟨t0, ht0⟩ := HW3.out.ret; obtain ⟨c0, c1, f0, f1⟩ := ty_cells ht0) | (go_at_call 89; refine (scan_done W.heap.size s _ _ (scan_far (scan_far HS3.out (p := ⟨br, 0, none⟩) (by simp; omega) _) (p := ⟨br, 1, none⟩) (by simp; omega) _) (by simp)).mono ?_; rintro e w4 ⟨rfl, hD4⟩; have HW4 := Aside0.mk ((HW3.out.setRet hbr hpr k c).1.step hbp hbr (grown_of_below hD4.below _)); have HT4 := Aside0.mk (ty_kept (HW3.out.setRet hbr hpr k c).2 (grown_of_below hD4.below none) (by simp)); obtain ⟨A, cp, hv⟩ := Kd.R_slice HW4.out.row; have hbx := HW4.out.box.cell; rw [hv] at hbx) | (go_at_call 95; refine (kind_unless_not _ _).mono ?_; rintro e w5 ⟨rfl, rfl⟩))
                  exact ⟨rfl, HW4.out.panic HQ.out (by decide)⟩
          · have q41 : ((y.toNat : Int) == 41) = false := beq_eq_false_iff_ne.2 (fun e => hy41 (byte_of e))
            have hty : typesF classL (gj + 1) ((bl s).drop i) = match oneT classL ((bl s).drop i) with
                | some (t, r) => if t.1 = 1 then none else (typesF classL gj r).map fun p => (t :: p.1, p.2)
                | none => none := by
              rw [hd, typesF, if_neg (by simpa using hy41)]
              rfl
            cases ho : oneT classL ((bl s).drop i) with
            | none =>
              rw [ho] at HO0 hty
              have HQ : Aside0 (splitD classL (bl s) = ([], (0, []), 1)) := ⟨by
                have h1 := HJ.out.so
                rw [hty] at h1
                rw [hsp.out, h1]
                rfl⟩
              have HO := Aside0.mk HO0
              clear HO0 ho hd hty
              go_wp2_with (first | (go_at_call 97; refine HSee.out.mono ?_; rintro e w1 ⟨rfl, hD1⟩; have HW1 := Aside0.mk (HJ.out.base.step hbp hbr (grown_of_below hD1.below _)); have HS1 := Aside0.mk (scan_drawn HJ.out.scan hD1)) | (go_at_call 88; refine (HO.out _ (HW1.out.keep.max HMX.out hgp hgr) HS1.out).mono ?_; rintro e w2 ⟨hg2, rfl⟩; have HW2 := Aside0.mk (HW1.out.step hbp hbr hg2)))
              exact ⟨rfl, HW2.out.panic HQ.out (by decide)⟩
            | some p =>
              obtain ⟨⟨k, c⟩, r⟩ := p
              rw [ho] at HO0 hty
              dsimp only at hty
              have hrt := one_right ho
              have hcl : (lb c).size ≤ 9223372036854775807 := by
                have h1 := one_short ho
                rw [List.length_drop, bl_len] at h1
                show c.length ≤ _
                dsimp only at h1
                omega
              have HPm0 := fun W' => kind_param k (lb c) W' hcl
              rw [bl_lb, show paramT classL (k, c) = decide (k ≠ 1) by unfold paramT; rw [hrt]; simp] at HPm0
              by_cases hk : k = 1
              · subst hk
                rw [if_pos rfl] at hty
                have HQ : Aside0 (splitD classL (bl s) = ([], (0, []), 1)) := ⟨by
                  have h1 := HJ.out.so
                  rw [hty] at h1
                  rw [hsp.out, h1]
                  rfl⟩
                have HO := Aside0.mk HO0
                have HPm := Aside0.mk HPm0
                clear HO0 HPm0 ho hd hty hrt
                go_wp2_with (first | (go_at_call 97; refine HSee.out.mono ?_; rintro e w1 ⟨rfl, hD1⟩; have HW1 := Aside0.mk (HJ.out.base.step hbp hbr (grown_of_below hD1.below _)); have HS1 := Aside0.mk (scan_drawn HJ.out.scan hD1)) | (go_at_call 88; refine (HO.out _ (HW1.out.keep.max HMX.out hgp hgr) HS1.out).mono ?_; rintro e w2 ⟨hg2, rfl, hs2⟩; have HW2 := Aside0.mk (HW1.out.step hbp hbr hg2); have HS2 := Aside0.mk hs2; clear hs2) | (go_at_call 93; refine (HPm.out _).mono ?_; rintro e w3 ⟨rfl, hb3⟩; have HB3 := Aside0.mk hb3; clear hb3) | (go_at_call 95; refine (kind_unless_not _ _).mono ?_; rintro e w4 ⟨rfl, rfl⟩))
                exact ⟨rfl, ((HW2.out.step hbp hbr (World.grownBy_alloc _ _ _)).step hbp hbr (grown_of_below HB3.out _)).panic HQ.out (by decide)⟩
              · rw [if_neg hk] at hty
                have HN : Aside0 (∀ wz v1, Scan wz W.heap.size s (s.size - r.length) → SplitW W bp br wz (ps ++ [(k, c)]) v1 → SplitI W bp br s ((bl s).drop 1) gj wz (s.size - r.length) (ps ++ [(k, c)]) v1) := ⟨fun wz v1 hsz hwz => {
                  scan := hsz
                  le := by omega
                  base := hwz
                  so := by
                    have h1 := HJ.out.so
                    rw [hty] at h1
                    rw [h1, one_drop ho]
                    cases typesF classL gj r with
                    | none => rfl
                    | some p => simp
                  cnt := by have := HJ.out.cnt; simp; omega
                  adv := by
                    have h1 := one_short ho
                    have h2 := HJ.out.adv
                    rw [List.length_drop, bl_len] at h1
                    simp at h1 ⊢
                    omega }⟩
                have HL64 : Aside0 (((ps.map toS).length + 1) * 24 ≤ 140737488355328) := ⟨by have := HJ.out.cnt; simp; omega⟩
                have HLN : Aside0 ((ps.map toS ++ [toS (k, c)]).length = ps.length + 1) := ⟨by simp⟩
                have HO := Aside0.mk HO0
                rw [show decide (k ≠ 1) = true by simpa using hk] at HPm0
                have HPm := Aside0.mk HPm0
                obtain ⟨A, cp, hv⟩ := Kd.R_slice HJ.out.base.row
                rw [List.length_map] at hv
                subst hv
                clear HO0 HPm0 ho hd hty hrt hk
                go_wp2_with (first | (go_at_call 97; refine HSee.out.mono ?_; rintro e w1 ⟨rfl, hD1⟩; have HW1 := Aside0.mk (HJ.out.base.step hbp hbr (grown_of_below hD1.below _)); have HS1 := Aside0.mk (scan_drawn HJ.out.scan hD1)) | (go_at_call 88; refine (HO.out _ (HW1.out.keep.max HMX.out hgp hgr) HS1.out).mono ?_; rintro e w2 ⟨hg2, rfl, hs2⟩; have HW2 := Aside0.mk (HW1.out.step hbp hbr hg2); have HS2 := Aside0.mk hs2; clear hs2) | (go_at_call 93; refine (HPm.out _).mono ?_; rintro e w3 ⟨rfl, hb3⟩; have HW3 := Aside0.mk ((HW2.out.step hbp hbr (World.grownBy_alloc _ _ _)).step hbp hbr (grown_of_below hb3 _)); have HS3 := Aside0.mk (scan_drawnB (scan_alloc HS2.out _) hb3); obtain ⟨d0, d1, d2, d3⟩ := ty_cells (ty_below (ty_new w2 k c) hb3); have hbx := HW3.out.box.cell; clear hb3) | (go_at_call 95; refine (kind_unless _ _).mono ?_; rintro e w4 ⟨rfl, rfl⟩) | ((with_reducible refine gate_builtin (b := .append) (xs := #[.tmp 20, .tmp 22]) rfl ?_); at_builtin; refine Kd.R_append k54 (w0 := w4) (W.heap.size + 1) rfl (.tmp 20) (.tmp 22) 61 54 (.agg #[(.int .i64 0), (.string ⟨#[]⟩)]) 24 rfl Try.underlying61 infoTy rfl (by decide) (by omega) (.slice A ps.length cp) (ps.map toS) (toS (k, c)) [.int .i64 k, .string (lb c)] (fun k => W.heap.size < k) (fun _ => False) rfl (by first | (go_simp; done) | (go_simp; rfl)) ?aP (fun _ hk => hk.elim) ?aF ?aO ?aB ?aS ?aL ?_; (case aP => exact k54_mkM _ _ _ (toS (k, c))); (case aB => exact Below.refl _ _); (case aF => exact (fun k hk => by have := HW3.out.big; omega)); (case aO => exact HW3.out.row); (case aS => exact HW3.out.big); (case aL => exact HL64.out); intro v1 w5 ho hb hg hat; obtain ⟨A1, cp1, hv1⟩ := Kd.R_slice ho; rw [HLN.out] at hv1; subst hv1; obtain ⟨hbx5, hw5⟩ := HW3.out.push hbp hbr hpr hg ho; have HS5 := Aside0.mk (scan_push (v1 := .slice A1 (ps.length + 1) cp1) HW3.out HS3.out hbp hg); have HW5 := Aside0.mk hw5; have hbc5 := hbx5.cell; have hbf5 := hbx5.frozen; clear ho hb hg hat hw5 hbx))
                go_roundg gj
                case measure => omega
                case rel => exact ⟨_, _, _, ⟨HN.out _ _ HS5.out HW5.out⟩⟩
        · have hdn : (bl s).drop i = [] := by rw [List.drop_eq_nil_iff, bl_len]; omega
          have HE := Aside0.mk (show s.size ≤ i by omega)
          have HQ : Aside0 (splitD classL (bl s) = ([], (0, []), 1)) := ⟨by
            have h1 := HJ.out.so
            rw [hdn] at h1
            rw [hsp.out, h1]
            rfl⟩
          have hz : oneT classL [] = none := rfl
          rw [hdn, hz] at HO0
          have HO := Aside0.mk HO0
          clear HO0 hdn hz hi
          go_wp2_with (first | (go_at_call 97; refine (scan_sees_none W.heap.size s i 41 wr HJ.out.scan HE.out (by have := HJ.out.le; omega)).mono ?_; rintro e w1 ⟨rfl, hD1⟩; have HW1 := Aside0.mk (HJ.out.base.step hbp hbr (grown_of_below hD1.below _)); have HS1 := Aside0.mk (scan_drawn HJ.out.scan hD1)) | (go_at_call 88; refine (HO.out _ (HW1.out.keep.max HMX.out hgp hgr) HS1.out).mono ?_; rintro e w2 ⟨hg2, rfl⟩; have HW2 := Aside0.mk (HW1.out.step hbp hbr hg2)))
          exact ⟨rfl, HW2.out.panic HQ.out (by decide)⟩
    · have HQ : Aside0 (splitD classL (bl s) = ([], (0, []), 1)) := ⟨by
        have hh : (bl s).head? ≠ some 40 := by rw [hd]; simpa using hx
        unfold splitD
        rw [if_neg hlen, if_neg hh]⟩
      have q40 : ((x.toNat : Int) == 40) = false := beq_eq_false_iff_ne.2 (fun e => hx (byte_of e))
      clear hS0 hM0 hT0 hP0 hK0 hd
      go_enter Try.func94, Try.ntmps94
      go_wp2_with (first | (go_at_call 96; refine HB.out.mono ?_; rintro e w1 ⟨rfl, hs1, hg1⟩) | (go_at_call 95; refine (kind_unless_not _ _).mono ?_; rintro e w2 ⟨rfl, rfl⟩))
      exact ⟨rfl, (HW0.out.step hbp hbr hg1).panic HQ.out (by decide)⟩
end Go.Proofs.Ytcbakmojhicahaa.Hand
end

section
namespace Go.Proofs.Ytcbakmojhicahaa.Hand
open Go.RowKit Go.Shelf Go.Proofs.YtcbakmojhicahaaW.PrintWords Go.Proofs.YtcbakmojhicahaaW.PrintLast Go.Proofs.YtcbakmojhicahaaW.PrintMore
set_option linter.unusedVariables false
set_option linter.unusedSimpArgs false

/-- Behind the closure, in whichever order the two results are written. -/
theorem split_end {w W2 : World} {bp br B : Nat} {v v' : Value} {ps : List Ty} {t0 t : Ty} (hp : w.heap.size ≤ bp) (hr : w.heap.size ≤ br) (hpr : bp ≠ br) (hpB : bp < B) (hrB : br < B) (hbx : Boxed W2 bp 61 v') (hty : TyAt W2 br t0)
    (hrow : Kd.R k54 54 W2 B (fun _ => True) v (ps.map toS)) (hw : Below w.heap.size w W2) :
    ∀ X, (X = ((W2.setCell ⟨bp, 0, none⟩ v).setCell ⟨br, 0, none⟩ (.int .i64 t.1)).setCell ⟨br, 1, none⟩ (.string (lb t.2)) ∨ X = ((W2.setCell ⟨br, 0, none⟩ (.int .i64 t.1)).setCell ⟨br, 1, none⟩ (.string (lb t.2))).setCell ⟨bp, 0, none⟩ v) →
      X.cell? ⟨bp, 0, none⟩ = some v ∧ X.cell? ⟨br, 0, none⟩ = some (.int .i64 t.1) ∧ X.cell? ⟨br, 1, none⟩ = some (.string (lb t.2)) ∧ Kd.R k54 54 X w.heap.size (fun _ => True) v (ps.map toS) ∧ Below w.heap.size w X := by
  have hne : ∀ k, B ≤ k → k ≠ bp ∧ k ≠ br := fun k hk => ⟨by omega, by omega⟩
  have hrow' := Kd.R_mono (Kd.R_bound hrow) (ok' := fun k => B ≤ k) (fun k hk => hk.2.1)
  have hwB : w.heap.size ≤ B := by omega
  rintro X (rfl | rfl)
  · have g1 : TyAt ((W2.setCell ⟨bp, 0, none⟩ v)) br t0 := ty_kept hty (scan_setCell W2 ⟨bp, 0, none⟩ v) (by simpa using hpr.symm)
    have g2 := ty_set g1 t.1 t.2
    obtain ⟨c0, c1, _, _⟩ := ty_cells g2
    have b1 := ((hbx.set v).kept (scan_setCell _ ⟨br, 0, none⟩ (.int .i64 t.1)) (by simpa using hpr)).kept (scan_setCell _ ⟨br, 1, none⟩ (.string (lb t.2))) (by simpa using hpr)
    refine ⟨b1.cell, c0, c1, ?_, ?_⟩
    · exact Kd.R_mono (Kd.R_lower (Kd.R_far (p := ⟨br, 1, none⟩) (Kd.R_far (p := ⟨br, 0, none⟩) (Kd.R_far (p := ⟨bp, 0, none⟩) hrow' (fun k hk => (hne k hk).1) _) (fun k hk => (hne k hk).2) _) (fun k hk => (hne k hk).2) _) hwB) (fun _ _ => trivial)
    · exact ((hw.setCell (p := ⟨bp, 0, none⟩) hp _).setCell (p := ⟨br, 0, none⟩) hr _).setCell (p := ⟨br, 1, none⟩) hr _
  · have g2 := ty_kept (ty_set hty t.1 t.2) (scan_setCell _ ⟨bp, 0, none⟩ v) (by simpa using hpr.symm)
    obtain ⟨c0, c1, _, _⟩ := ty_cells g2
    have b1 := Boxed.set v ((hbx.kept (scan_setCell _ ⟨br, 0, none⟩ (.int .i64 t.1)) (by simpa using hpr)).kept (scan_setCell _ ⟨br, 1, none⟩ (.string (lb t.2))) (by simpa using hpr))
    refine ⟨b1.cell, c0, c1, ?_, ?_⟩
    · exact Kd.R_mono (Kd.R_lower (Kd.R_far (p := ⟨bp, 0, none⟩) (Kd.R_far (p := ⟨br, 1, none⟩) (Kd.R_far (p := ⟨br, 0, none⟩) hrow' (fun k hk => (hne k hk).2) _) (fun k hk => (hne k hk).2) _) (fun k hk => (hne k hk).1) _) hwB) (fun _ _ => trivial)
    · exact ((hw.setCell (p := ⟨br, 0, none⟩) hr _).setCell (p := ⟨br, 1, none⟩) hr _).setCell (p := ⟨bp, 0, none⟩) hp _
theorem Keep2.below {w W X : World} {p q : Nat} (h : Keep2 W X p q) (hw : Below w.heap.size w W) (hp : w.heap.size ≤ p) (hq : w.heap.size ≤ q) : Below w.heap.size w X :=
  ⟨h.os.trans hw.os, h.tape.trans hw.tape, h.output.trans hw.output, Nat.le_trans hw.size h.size, fun k hk => (h.block k (Nat.lt_of_lt_of_le hk hw.size) (by omega) (by omega)).trans (hw.block k hk)⟩
theorem split_err {l : List UInt8} {ps : List Ty} {t : Ty} {e : Int} (h : splitD classL l = (ps, t, e)) : e = 0 ∨ (ps = [] ∧ t = (0, []) ∧ (e = 1 ∨ e = 3)) := by
  unfold splitD at h
  split at h
  · cases h; exact .inr ⟨rfl, rfl, .inr rfl⟩
  · split at h
    · split at h
      · split at h
        · split at h
          · cases h; exact .inl rfl
          · cases h; exact .inr ⟨rfl, rfl, .inr rfl⟩
        · cases h; exact .inr ⟨rfl, rfl, .inl rfl⟩
      · cases h; exact .inr ⟨rfl, rfl, .inl rfl⟩
    · cases h; exact .inr ⟨rfl, rfl, .inl rfl⟩
/-- What Split hands back. -/
def endSp (W : World) (q : List Ty × Ty × Int) (x : Ending) (w' : World) : Prop :=
  ∃ v, x = .returned (.tuple #[v, .agg #[.int .i64 q.2.1.1, .string (lb q.2.1.2)], .int .i64 q.2.2]) ∧ Kd.R k54 54 w' W.heap.size (fun _ => True) v (q.1.map toS) ∧ Below W.heap.size W w'
set_option maxHeartbeats 16000000 in
set_option maxRecDepth 20000 in
theorem kind_split (s : ByteArray) (W : World) (hM : MaxL W) (hm : s.size ≤ 1048576) :
    Calls Try.prog 42 #[.string s] W (endSp W (splitD classL (bl s))) := by
  have hmf : ∀ (fn : Fn) (first cap : Array Value) (w : World), (Instr.makeFunc fn first cap).run Try.prog w = .ok (.func fn first cap) w := fun _ _ _ _ => rfl
  by_cases hbig : 64 < s.size
  · have hsp : splitD classL (bl s) = ([], (0, []), 3) := by
      unfold splitD
      rw [if_pos (by rw [bl_len]; exact hbig)]
    rw [hsp]
    have hd1 : decide ((64 : Int) < (s.size : Int)) = true := decide_eq_true (by omega)
    have hd2 : decide (64 < s.size) = true := decide_eq_true hbig
    go_enter Try.func42, Try.ntmps42
    go_wp2
    refine ⟨rfl, .tuple #[.slice none 0 0, .agg #[.int .i64 0, .string ⟨#[]⟩], .int .i64 3], by simp [results, Try.results42, go_sem], _, rfl, Kd.R_nil _ _ _ _ _, ?_⟩
    first
      | exact below_alloc (below_alloc (below_alloc (Below.refl _ _) _) _) _
      | trace_state
  · have hd1 : decide ((64 : Int) < (s.size : Int)) = false := decide_eq_false (by omega)
    have hd2 : decide (64 < s.size) = false := decide_eq_false hbig
    have hM64 : s.size ≤ 64 := by omega
    clear hbig
    obtain ⟨W1, hW1⟩ : ∃ W1, W1 = ((W.alloc (.cells #[.string s] 9)).alloc (.cells #[.slice none 0 0] 61)).alloc (.cells #[.int .i64 0, .string ⟨#[]⟩] 54) := ⟨_, rfl⟩
    have hz1 : W1.heap.size = W.heap.size + 3 := by rw [hW1]; simp
    have hB1 : Boxed W1 W.heap.size 9 (.string s) := by rw [hW1]; exact ((Boxed.new W 9 (.string s)).alloc _).alloc _
    have hP1 : Boxed W1 (W.heap.size + 1) 61 (.slice none 0 0) := by
      have := (Boxed.new (W.alloc (.cells #[.string s] 9)) 61 (.slice none 0 0)).alloc (.cells #[.int .i64 0, .string ⟨#[]⟩] 54)
      rw [World.size_alloc] at this
      rw [hW1]; exact this
    have hT1 : TyAt W1 (W.heap.size + 2) (0, []) := by
      have := World.alloc_heap_new ((W.alloc (.cells #[.string s] 9)).alloc (.cells #[.slice none 0 0] 61)) (.cells #[.int .i64 0, .string ⟨#[]⟩] 54)
      rw [World.size_alloc, World.size_alloc] at this
      rw [hW1]; exact this
    have hG1 : Below W.heap.size W W1 := by rw [hW1]; exact below_alloc (below_alloc (below_alloc (Below.refl _ _) _) _) _
    have hM1 : MaxL W1 := max_below hM hG1
    have hgs : (0 : Nat) < W.heap.size := by
      obtain ⟨m, hmm⟩ := hM
      exact World.block_lt_of_cell? W _ hmm
    have hGE : Below W.heap.size W (W1.alloc (.cells #[.int .i64 0] 47)) := below_alloc hG1 _
    have hE : ∀ w', Keep2 (W1.alloc (.cells #[.int .i64 0] 47)) w' (W.heap.size + 1) (W.heap.size + 2) → w'.cell? ⟨W1.heap.size, 0, none⟩ = some (.int .i64 0) ∧ w'.frozen? ⟨W1.heap.size, 0, none⟩ = false := fun w' hk => by
      have hb : Boxed w' W1.heap.size 47 (.int .i64 0) := (hk.block W1.heap.size (by simp) (by omega) (by omega)).trans (Boxed.new W1 47 (.int .i64 0))
      exact ⟨hb.cell, hb.frozen⟩
    have hP := split_body W.heap.size (W.heap.size + 1) (W.heap.size + 2) s (W1.alloc (.cells #[.int .i64 0] 47)) (hB1.alloc _).cell (hP1.alloc _) (ty_kept hT1 (World.grownBy_alloc W1 _ none) (by simp)) (max_alloc hM1 _) (by omega) (by omega) (by omega) hM64
    have hen := fun W => enters_ Try.func94 (by kernel_rfl) rfl #[.pointer (some ⟨W1.heap.size - 3, 0, none⟩), .pointer (some ⟨W1.heap.size - 2, 0, none⟩), .pointer (some ⟨W1.heap.size - 1, 0, none⟩)] W
    have hs3 : W1.heap.size - 3 = W.heap.size := by omega
    have hs2 : W1.heap.size - 2 = W.heap.size + 1 := by omega
    have hs1 : W1.heap.size - 1 = W.heap.size + 2 := by omega
    rw [hs1, hs2, hs3] at hen
    obtain ⟨ps, t, e, hq⟩ : ∃ ps t e, splitD classL (bl s) = (ps, t, e) := ⟨_, _, _, rfl⟩
    rw [hq] at hP ⊢
    by_cases h0 : e = 0
    · subst h0
      have HC := Aside0.mk ((caught_ok 94 _ W1 (fun w' => Keep2 (W1.alloc (.cells #[.int .i64 0] 47)) w' (W.heap.size + 1) (W.heap.size + 2) ∧ TyAt w' (W.heap.size + 2) t ∧ ∃ v, Boxed w' (W.heap.size + 1) 61 v ∧ Kd.R k54 54 w' ((W1.alloc (.cells #[.int .i64 0] 47)).heap.size + 1) (fun _ => True) v (ps.map toS)) hen (hP.mono fun x w' ⟨h1, _, _, h4⟩ => by
        rw [if_pos rfl] at h4
        exact ⟨h4.1, h1, h4.2.1, h4.2.2⟩) (fun w' h => hE w' h.1)).mono
        (show ∀ x w', _ → x = .returned (.int .i64 0) ∧ Below W.heap.size W w' ∧ TyAt w' (W.heap.size + 2) t ∧ ∃ v, Boxed w' (W.heap.size + 1) 61 v ∧ Kd.R k54 54 w' (W.heap.size + 5) (fun _ => True) v (ps.map toS) from fun x w' ⟨h1, w1, ⟨h2, h3, v, h4, h5⟩, h6⟩ => by
          subst h6
          rw [World.size_alloc, hz1] at h5
          refine ⟨h1, (h2.below hGE (by omega) (by omega)).setCell (p := ⟨W1.heap.size, 0, none⟩) (by simp; omega) _, ty_kept h3 (scan_setCell w1 ⟨W1.heap.size, 0, none⟩ _) (by simp; omega), v, h4.kept (scan_setCell w1 ⟨W1.heap.size, 0, none⟩ _) (by simp; omega), ?_⟩
          exact Kd.R_mono (Kd.R_far (p := ⟨W1.heap.size, 0, none⟩) (Kd.R_mono (Kd.R_bound h5) (ok' := fun k => W.heap.size + 5 ≤ k) (fun k hk => hk.2.1)) (fun k hk => by simp; omega) _) (fun _ _ => trivial)))
      clear hP hen hE hT1 hB1 hP1 hq
      go_enter Try.func42, Try.ntmps42
      go_wp2_with (go_at_call 86; rw [← hW1]; refine HC.out.mono ?_; rintro e w2 ⟨rfl, hb2, ht2, v, hbx, hrow⟩; have HEnd := Aside0.mk (split_end (w := W) (bp := W.heap.size + 1) (br := W.heap.size + 1 + 1) (t := t) (by omega) (by omega) (by omega) (by omega) (by omega) hbx ht2 hrow hb2); obtain ⟨A, cp, hv⟩ := Kd.R_slice hrow; rw [List.length_map] at hv; subst hv; obtain ⟨c0, c1, f0, f1⟩ := ty_cells ht2; have c2 := hbx.cell; have f2 := hbx.frozen; clear hb2 ht2 hbx hrow)
      go_region
      all_goals go_wp2
      obtain ⟨q0, q1, q2, q3, q4⟩ := HEnd.out _ (.inl rfl)
      refine ⟨rfl, .tuple #[.slice A ps.length cp, .agg #[.int .i64 t.1, .string (lb t.2)], .int .i64 0], by simp [results, Try.results42, go_sem, q0, q1, q2], _, rfl, Kd.R_drew q3, below_drew q4⟩
    · obtain ⟨rfl, rfl, he⟩ := (split_err hq).resolve_left h0
      have HC := Aside0.mk ((caught_not 94 _ W1 e (fun w' => Keep2 (W1.alloc (.cells #[.int .i64 0] 47)) w' (W.heap.size + 1) (W.heap.size + 2) ∧ (∃ t, TyAt w' (W.heap.size + 2) t) ∧ ∃ v, Boxed w' (W.heap.size + 1) 61 v) hen (hP.mono fun x w' ⟨h1, h2, h3, h4⟩ => by
        rw [if_neg h0] at h4
        exact ⟨h4, h1, h2, h3⟩) (fun w' h => hE w' h.1)).mono
        (show ∀ x w', _ → x = .returned (.int .i64 e) ∧ Below W.heap.size W w' ∧ (∃ t, TyAt w' (W.heap.size + 2) t) ∧ ∃ v, Boxed w' (W.heap.size + 1) 61 v from fun x w' ⟨h1, w1, ⟨h2, ⟨t, h3⟩, v, h4⟩, h6⟩ => by
          subst h6
          refine ⟨h1, (below_alloc (h2.below hGE (by omega) (by omega)) _).setCell (p := ⟨W1.heap.size, 0, none⟩) (by simp; omega) _, ⟨t, ?_⟩, v, ?_⟩
          · exact ty_kept (ty_kept h3 (World.grownBy_alloc w1 _ none) (by simp)) (scan_setCell _ ⟨W1.heap.size, 0, none⟩ _) (by simp; omega)
          · exact (h4.alloc _).kept (scan_setCell _ ⟨W1.heap.size, 0, none⟩ _) (by simp; omega)))
      clear hP hen hE hT1 hB1 hP1 hq h0
      rcases he with rfl | rfl
      all_goals go_enter Try.func42, Try.ntmps42
      all_goals go_wp2_with (go_at_call 86; rw [← hW1]; refine HC.out.mono ?_; rintro e w2 ⟨rfl, hb2, ⟨t0, ht2⟩, v, hbx⟩; have HEnd := Aside0.mk (split_end (w := W) (bp := W.heap.size + 1) (br := W.heap.size + 1 + 1) (B := W.heap.size + 5) (ps := []) (v := .slice none 0 0) (t := (0, [])) (by omega) (by omega) (by omega) (by omega) (by omega) hbx ht2 (Kd.R_nil _ _ _ _ _) hb2); obtain ⟨c0, c1, f0, f1⟩ := ty_cells ht2; have c2 := hbx.cell; have f2 := hbx.frozen; clear hb2 ht2 hbx)
      · have hx := HEnd.out (((w2.setCell ⟨W.heap.size + 1, 0, none⟩ (.slice none 0 0)).setCell ⟨W.heap.size + 1 + 1, 0, none⟩ (.int .i64 0)).setCell ⟨W.heap.size + 1 + 1, 1, none⟩ (.string ⟨#[]⟩)) (.inl rfl)
        have q0 : (((w2.setCell ⟨W.heap.size + 1, 0, none⟩ (.slice none 0 0)).setCell ⟨W.heap.size + 1 + 1, 0, none⟩ (.int .i64 0)).setCell ⟨W.heap.size + 1 + 1, 1, none⟩ (.string ⟨#[]⟩)).cell? ⟨W.heap.size + 1, 0, none⟩ = some (.slice none 0 0) := hx.1
        have q1 : (((w2.setCell ⟨W.heap.size + 1, 0, none⟩ (.slice none 0 0)).setCell ⟨W.heap.size + 1 + 1, 0, none⟩ (.int .i64 0)).setCell ⟨W.heap.size + 1 + 1, 1, none⟩ (.string ⟨#[]⟩)).cell? ⟨W.heap.size + 1 + 1, 0, none⟩ = some (.int .i64 0) := hx.2.1
        have q2 : (((w2.setCell ⟨W.heap.size + 1, 0, none⟩ (.slice none 0 0)).setCell ⟨W.heap.size + 1 + 1, 0, none⟩ (.int .i64 0)).setCell ⟨W.heap.size + 1 + 1, 1, none⟩ (.string ⟨#[]⟩)).cell? ⟨W.heap.size + 1 + 1, 1, none⟩ = some (.string ⟨#[]⟩) := hx.2.2.1
        refine ⟨rfl, .tuple #[.slice none 0 0, .agg #[.int .i64 0, .string ⟨#[]⟩], .int .i64 1], by simp [results, Try.results42, go_sem, q0, q1, q2], _, rfl, hx.2.2.2.1, hx.2.2.2.2⟩
      · have hx := HEnd.out (((w2.setCell ⟨W.heap.size + 1, 0, none⟩ (.slice none 0 0)).setCell ⟨W.heap.size + 1 + 1, 0, none⟩ (.int .i64 0)).setCell ⟨W.heap.size + 1 + 1, 1, none⟩ (.string ⟨#[]⟩)) (.inl rfl)
        have q0 : (((w2.setCell ⟨W.heap.size + 1, 0, none⟩ (.slice none 0 0)).setCell ⟨W.heap.size + 1 + 1, 0, none⟩ (.int .i64 0)).setCell ⟨W.heap.size + 1 + 1, 1, none⟩ (.string ⟨#[]⟩)).cell? ⟨W.heap.size + 1, 0, none⟩ = some (.slice none 0 0) := hx.1
        have q1 : (((w2.setCell ⟨W.heap.size + 1, 0, none⟩ (.slice none 0 0)).setCell ⟨W.heap.size + 1 + 1, 0, none⟩ (.int .i64 0)).setCell ⟨W.heap.size + 1 + 1, 1, none⟩ (.string ⟨#[]⟩)).cell? ⟨W.heap.size + 1 + 1, 0, none⟩ = some (.int .i64 0) := hx.2.1
        have q2 : (((w2.setCell ⟨W.heap.size + 1, 0, none⟩ (.slice none 0 0)).setCell ⟨W.heap.size + 1 + 1, 0, none⟩ (.int .i64 0)).setCell ⟨W.heap.size + 1 + 1, 1, none⟩ (.string ⟨#[]⟩)).cell? ⟨W.heap.size + 1 + 1, 1, none⟩ = some (.string ⟨#[]⟩) := hx.2.2.1
        refine ⟨rfl, .tuple #[.slice none 0 0, .agg #[.int .i64 0, .string ⟨#[]⟩], .int .i64 3], by simp [results, Try.results42, go_sem, q0, q1, q2], _, rfl, hx.2.2.2.1, hx.2.2.2.2⟩
end Go.Proofs.Ytcbakmojhicahaa.Hand
end

section
namespace Go.Proofs.Ytcbakmojhicahaa.Hand
open Go.RowKit Go.Shelf Go.Proofs.YtcbakmojhicahaaW.PrintWords Go.Proofs.YtcbakmojhicahaaW.PrintLast Go.Proofs.YtcbakmojhicahaaW.PrintMore
set_option linter.unusedVariables false
set_option linter.unusedSimpArgs false

/-! ### the chapter's functions, by plain specifications -/
def kind_Right.f (k : Int) (c : ByteArray) : Option Bool := if c.size ≤ 4611686018427387903 then some (rightT classL (k, bl c)) else none
theorem kind_Right.calls (a0_0 : Int) (a0_1 : ByteArray) (r : Bool) (w : World) (h : kind_Right.f a0_0 a0_1 = some r) :
    Calls Try.prog 33 #[.agg #[.int .i64 a0_0, .string a0_1]] w fun e w' => e = .returned (.bool r) ∧ Below w.heap.size w w' := by
  unfold kind_Right.f at h
  split at h
  · cases h
    exact kind_right a0_0 a0_1 w (by omega)
  · cases h
def kind_param.f (k : Int) (c : ByteArray) : Option Bool := if c.size ≤ 4611686018427387903 then some (paramT classL (k, bl c)) else none
theorem kind_param.calls (a0_0 : Int) (a0_1 : ByteArray) (r : Bool) (w : World) (h : kind_param.f a0_0 a0_1 = some r) :
    Calls Try.prog 93 #[.agg #[.int .i64 a0_0, .string a0_1]] w fun e w' => e = .returned (.bool r) ∧ Below w.heap.size w w' := by
  unfold kind_param.f at h
  split at h
  · cases h
    exact kind_param a0_0 a0_1 w (by omega)
  · cases h
def kind_Text.f (k : Int) (c : ByteArray) : Option ByteArray := if c.size ≤ 4611686018427387903 then some (lb (textT classL (k, bl c))) else none
theorem kind_Text.calls (a0_0 : Int) (a0_1 : ByteArray) (r : ByteArray) (w : World) (h : kind_Text.f a0_0 a0_1 = some r) :
    Calls Try.prog 39 #[.agg #[.int .i64 a0_0, .string a0_1]] w fun e w' => e = .returned (.string r) ∧ Below w.heap.size w w' := by
  unfold kind_Text.f at h
  split at h
  · cases h
    exact kind_text a0_0 a0_1 w (by omega)
  · cases h
def kind_Parse.f (s : ByteArray) : Option (Int × ByteArray × Int) := if s.size ≤ 1048576 then some ((parseT classL (bl s)).1.1, lb (parseT classL (bl s)).1.2, (parseT classL (bl s)).2) else none
theorem kind_Parse.calls (a0 : ByteArray) (r1 : Int) (r2 : ByteArray) (r3 : Int) (w : World) (hGMaxL : MaxL w) (h : kind_Parse.f a0 = some (r1, r2, r3)) :
    Calls Try.prog 31 #[.string a0] w fun e w' => e = .returned (.tuple #[.agg #[.int .i64 r1, .string r2], .int .i64 r3]) ∧ Below w.heap.size w w' := by
  unfold kind_Parse.f at h
  split at h
  · cases h
    exact kind_parse a0 w hGMaxL (by omega)
  · cases h
def kind_Split.f (s : ByteArray) : Option (List (S54) × Int × ByteArray × Int) := if s.size ≤ 1048576 then some ((splitD classL (bl s)).1.map toS, (splitD classL (bl s)).2.1.1, lb (splitD classL (bl s)).2.1.2, (splitD classL (bl s)).2.2) else none
theorem kind_Split.calls (a0 : ByteArray) (r1 : List (S54)) (r2 : Int) (r3 : ByteArray) (r4 : Int) (w : World) (hGMaxL : MaxL w) (h : kind_Split.f a0 = some (r1, r2, r3, r4)) :
    Calls Try.prog 42 #[.string a0] w fun e w' => ∃ v0_ : Value, e = .returned (.tuple #[v0_, .agg #[.int .i64 r2, .string r3], .int .i64 r4]) ∧ Kd.R k54 54 w' w.heap.size (fun _ => True) v0_ r1 ∧ Below w.heap.size w w' := by
  unfold kind_Split.f at h
  split at h
  · cases h
    exact (kind_split a0 w hGMaxL (by omega)).mono fun x w' ⟨v, h1, h2, h3⟩ => ⟨v, h1, h2, h3⟩
  · cases h
end Go.Proofs.Ytcbakmojhicahaa.Hand
end

section
namespace Go.Proofs.Ytcbakmojhicahaa.Hand
open Go.RowKit Go.Shelf Go.Proofs.YtcbakmojhicahaaW.PrintWords Go.Proofs.YtcbakmojhicahaaW.PrintLast Go.Proofs.YtcbakmojhicahaaW.PrintMore
set_option linter.unusedVariables false
set_option linter.unusedSimpArgs false

def ofS (x : S54) : Ty := (x.f0, bl x.f1)
/-- What Desc refuses among its parameters. -/
def badS (x : S54) : Bool := !paramT classL (ofS x)
theorem desc_bad (x : S54) (w : World) (hc : x.f1.size ≤ 4611686018427387903) :
    Calls Try.prog 92 #[.agg #[.int .i64 x.f0, .string x.f1]] w fun e w' => e = .returned (.bool (badS x)) ∧ Below w.heap.size w w' := by
  have HP := Aside0.mk (fun W => kind_param x.f0 x.f1 W (by omega))
  go_enter Try.func92, Try.ntmps92
  go_wp2_with (go_at_call 93; refine (HP.out _).mono ?_; rintro e w1 ⟨rfl, hb⟩)
  go_ret
  exact ⟨rfl, by first | exact (below_alloc (Below.refl _ _) _).trans (hb.mono (by simp)) | exact hb⟩
set_option maxHeartbeats 16000000 in
set_option maxRecDepth 20000 in
theorem index_bad (A : Option Addr) (c : Nat) (xs : List (S54)) (w : World) (hC : Kd.C k54 w A xs.length xs) (hc : xs.length ≤ c) (hl : xs.length ≤ 1048576) (hs : ∀ x ∈ xs, x.f1.size ≤ 4611686018427387903) :
    Calls Try.prog 129 #[.slice A xs.length c, .func (.func 92) #[] #[]] w fun e w' => ∃ j : Int, e = .returned (.int .i64 j) ∧ (decide (0 ≤ j) = xs.any badS) ∧ Below w.heap.size w w' := by
  have HC := Aside0.mk hC
  have HS := Aside0.mk hs
  clear hC hs
  go_enter Try.func129, Try.ntmps129
  go_wp2
  go_loopg [8] xs.length (fun kq v8 wr => ∃ i : Nat, v8 = .int .i64 (i : Int) ∧ i + kq = xs.length ∧ Aside0 (∀ j (hj : j < xs.length), j < i → badS xs[j] = false) ∧ Aside0 (Below w.heap.size w wr))
  case atStart => exact ⟨0, rfl, by omega, ⟨fun j _ h => absurd h (Nat.not_lt_zero j)⟩, ⟨Below.refl _ _⟩⟩
  case round =>
    obtain ⟨i, rfl, hi, HA, HB⟩ := hrel
    by_cases hlt : i < xs.length
    · obtain ⟨ad, hA, h0, h1⟩ := at_T54 (Kd.C_below HC.out HB.out) (i : Int) (by omega) (by omega)
      have hx : rd_T54 xs (i : Int) = xs[i] := by
        unfold rd_T54
        rw [Int.toNat_natCast, List.getD_eq_getElem?_getD, List.getElem?_eq_getElem hlt]
        rfl
      rw [hx, Int.toNat_natCast] at h0 h1
      have HMem := Aside0.mk (List.getElem_mem hlt)
      have HGet : Aside0 (xs[i] = xs[i]) := ⟨rfl⟩
      obtain ⟨x, hxe⟩ : ∃ x, xs[i] = x := ⟨_, rfl⟩
      rw [hxe] at h0 h1 HMem
      have HXE := Aside0.mk hxe
      subst hA
      have HP := Aside0.mk (fun W => desc_bad x W (HS.out x HMem.out))
      have hd : decide ((i : Int) < (xs.length : Int)) = true := decide_eq_true (by omega)
      clear hx hxe HGet
      cases hbd : badS x with
      | true =>
        have HBD := Aside0.mk (show xs.any badS = true from List.any_eq_true.2 ⟨x, HMem.out, hbd⟩)
        rw [hbd] at HP
        clear hbd
        go_wp2_with (go_at_call 92; refine (HP.out _).mono ?_; rintro e w1 ⟨rfl, hb⟩; have HB1 := Aside0.mk (HB.out.trans (hb.mono HB.out.size)))
        refine bodyPost_ret (results_tmp rfl _ _ _) rfl ⟨(i : Int), rfl, ?_, HB1.out⟩
        rw [HBD.out]
        simp
      | false =>
        have HBF := Aside0.mk hbd
        rw [hbd] at HP
        clear hbd
        go_wp2_with (go_at_call 92; refine (HP.out _).mono ?_; rintro e w1 ⟨rfl, hb⟩; have HB1 := Aside0.mk (HB.out.trans (hb.mono HB.out.size)))
        go_roundg (gk - 1)
        case measure => omega
        case rel =>
          refine ⟨i + 1, by simp, by omega, ⟨fun j hj hji => ?_⟩, HB1⟩
          by_cases e : j = i
          · subst e
            rw [HXE.out]
            exact HBF.out
          · exact HA.out j hj (by omega)
    · have hd : decide ((i : Int) < (xs.length : Int)) = false := decide_eq_false (by omega)
      have HF : Aside0 (xs.any badS = false) := ⟨List.any_eq_false.2 fun x hx => by
        obtain ⟨j, hj, rfl⟩ := List.mem_iff_getElem.1 hx
        rw [HA.out j hj (by omega)]
        simp⟩
      go_wp2
      go_ret
      exact ⟨-1, rfl, by rw [HF.out]; rfl, HB.out⟩
theorem contains_bad (A : Option Addr) (c : Nat) (xs : List (S54)) (w : World) (hC : Kd.C k54 w A xs.length xs) (hc : xs.length ≤ c) (hl : xs.length ≤ 1048576) (hs : ∀ x ∈ xs, x.f1.size ≤ 4611686018427387903) :
    Calls Try.prog 91 #[.slice A xs.length c, .func (.func 92) #[] #[]] w fun e w' => e = .returned (.bool (xs.any badS)) ∧ Below w.heap.size w w' := by
  have HI := Aside0.mk (index_bad A c xs w hC hc hl hs)
  clear hC hs
  go_enter Try.func91, Try.ntmps91
  go_wp2_with (go_at_call 129; refine HI.out.mono ?_; rintro e w1 ⟨j, rfl, hj, hb⟩; have HJ := Aside0.mk hj; clear hj)
  go_ret
  exact ⟨by rw [HJ.out]; rfl, hb⟩
end Go.Proofs.Ytcbakmojhicahaa.Hand
end

section
namespace Go.Proofs.Ytcbakmojhicahaa.Hand
open Go.RowKit Go.Shelf Go.Proofs.YtcbakmojhicahaaW.PrintWords Go.Proofs.YtcbakmojhicahaaW.PrintLast Go.Proofs.YtcbakmojhicahaaW.PrintMore
set_option linter.unusedVariables false
set_option linter.unusedSimpArgs false

/-- Does a pair stand for a type's class? -/
def oldS (t : Ty) (x : S78) : Bool := x.f0.toList == (lb t.2).toList
theorem ren_old (x : S78) (g : Nat) (t : Ty) (w : World) (hT : TyAt w g t) :
    Calls Try.prog 99 #[.agg #[.string x.f0, .string x.f1], .pointer (some ⟨g, 0, none⟩)] w fun e w' => e = .returned (.bool (oldS t x)) ∧ Below w.heap.size w w' := by
  have hg : g < w.heap.size := (Array.getElem?_eq_some_iff.1 hT).1
  obtain ⟨c0, c1, f0, f1⟩ := ty_cells hT
  go_enter Try.func99, Try.ntmps99
  go_wp2
  go_ret
  exact ⟨rfl, by first | exact below_alloc (Below.refl _ _) _ | exact Below.refl _ _⟩
set_option maxHeartbeats 16000000 in
set_option maxRecDepth 20000 in
theorem index_old (A : Option Addr) (c : Nat) (xs : List (S78)) (w : World) (hC : Kd.C k78 w A xs.length xs) (hc : xs.length ≤ c) (hl : xs.length ≤ 1048576) (g : Nat) (t : Ty) (hs : TyAt w g t) :
    Calls Try.prog 98 #[.slice A xs.length c, .func (.func 99) #[] #[.pointer (some ⟨g, 0, none⟩)]] w fun e w' => ∃ j : Int, e = .returned (.int .i64 j) ∧ ((j = -1 ∧ ∀ x ∈ xs, oldS t x = false) ∨ ∃ i : Nat, ∃ hi : i < xs.length, j = (i : Int) ∧ oldS t xs[i] = true ∧ ∀ (m : Nat) (hm : m < xs.length), m < i → oldS t xs[m] = false) ∧ Below w.heap.size w w' := by
  have HC := Aside0.mk hC
  have HS := Aside0.mk hs
  clear hC hs
  go_enter Try.func98, Try.ntmps98
  go_wp2
  go_loopg [8] xs.length (fun kq v8 wr => ∃ i : Nat, v8 = .int .i64 (i : Int) ∧ i + kq = xs.length ∧ Aside0 (∀ j (hj : j < xs.length), j < i → oldS t xs[j] = false) ∧ Aside0 (Below w.heap.size w wr))
  case atStart => exact ⟨0, rfl, by omega, ⟨fun j _ h => absurd h (Nat.not_lt_zero j)⟩, ⟨Below.refl _ _⟩⟩
  case round =>
    obtain ⟨i, rfl, hi, HA, HB⟩ := hrel
    by_cases hlt : i < xs.length
    · obtain ⟨ad, hA, h0, h1⟩ := at_T78 (Kd.C_below HC.out HB.out) (i : Int) (by omega) (by omega)
      have hx : rd_T78 xs (i : Int) = xs[i] := by
        unfold rd_T78
        rw [Int.toNat_natCast, List.getD_eq_getElem?_getD, List.getElem?_eq_getElem hlt]
        rfl
      rw [hx, Int.toNat_natCast] at h0 h1
      have HMem := Aside0.mk (List.getElem_mem hlt)
      have HGet : Aside0 (xs[i] = xs[i]) := ⟨rfl⟩
      obtain ⟨x, hxe⟩ : ∃ x, xs[i] = x := ⟨_, rfl⟩
      rw [hxe] at h0 h1 HMem
      have HXE := Aside0.mk hxe
      subst hA
      have HP := Aside0.mk (fun W (hW : Below w.heap.size w W) => ren_old x g t W (ty_below HS.out hW))
      have hd : decide ((i : Int) < (xs.length : Int)) = true := decide_eq_true (by omega)
      clear hx hxe HGet
      cases hbd : oldS t x with
      | true =>
        have HBD := Aside0.mk (show oldS t xs[i] = true from by rw [HXE.out]; exact hbd)
        rw [hbd] at HP
        clear hbd
        go_wp2_with (go_at_call 99; refine (HP.out _ HB.out).mono ?_; rintro e w1 ⟨rfl, hb⟩; have HB1 := Aside0.mk (HB.out.trans (hb.mono HB.out.size)))
        refine bodyPost_ret (results_tmp rfl _ _ _) rfl ⟨(i : Int), rfl, .inr ⟨i, hlt, rfl, HBD.out, HA.out⟩, HB1.out⟩
      | false =>
        have HBF := Aside0.mk hbd
        rw [hbd] at HP
        clear hbd
        go_wp2_with (go_at_call 99; refine (HP.out _ HB.out).mono ?_; rintro e w1 ⟨rfl, hb⟩; have HB1 := Aside0.mk (HB.out.trans (hb.mono HB.out.size)))
        go_roundg (gk - 1)
        case measure => omega
        case rel =>
          refine ⟨i + 1, by simp, by omega, ⟨fun j hj hji => ?_⟩, HB1⟩
          by_cases e : j = i
          · subst e
            rw [HXE.out]
            exact HBF.out
          · exact HA.out j hj (by omega)
    · have hd : decide ((i : Int) < (xs.length : Int)) = false := decide_eq_false (by omega)
      have HF : Aside0 (∀ x ∈ xs, oldS t x = false) := ⟨fun x hx => by
        obtain ⟨j, hj, rfl⟩ := List.mem_iff_getElem.1 hx
        exact HA.out j hj (by omega)⟩
      go_wp2
      go_ret
      exact ⟨-1, rfl, .inl ⟨rfl, HF.out⟩, HB.out⟩
end Go.Proofs.Ytcbakmojhicahaa.Hand
end

section
namespace Go.Proofs.Ytcbakmojhicahaa.Hand
open Go.RowKit Go.Shelf Go.Proofs.YtcbakmojhicahaaW.PrintWords Go.Proofs.YtcbakmojhicahaaW.PrintLast Go.Proofs.YtcbakmojhicahaaW.PrintMore
set_option linter.unusedVariables false
set_option linter.unusedSimpArgs false

set_option maxHeartbeats 16000000 in
set_option maxRecDepth 20000 in
/-- A type that names no class stays. -/
theorem ren_stays (k : Int) (c : ByteArray) (A : Option Addr) (n cp : Nat) (w : World) (h3 : k ≠ 3) (h5 : k ≠ 5) :
    Calls Try.prog 44 #[.agg #[.int .i64 k, .string c], .slice A n cp] w fun e w' => e = .returned (.agg #[.int .i64 k, .string c]) ∧ Below w.heap.size w w' := by
  have q3 : (k == 3) = false := beq_eq_false_iff_ne.2 h3
  have q5 : (k == 5) = false := beq_eq_false_iff_ne.2 h5
  have p3 : (k != 3) = true := by simp [h3]
  have p5 : (k != 5) = true := by simp [h5]
  go_enter Try.func44, Try.ntmps44
  go_wp2
  refine ⟨rfl, .agg #[.int .i64 k, .string c], by simp [results, Try.results44, go_sem], rfl, ?_⟩
  first
    | exact ((below_alloc (below_alloc (Below.refl _ _) _) _).setCell (p := ⟨w.heap.size + 1, 0, none⟩) (by simp) _).setCell (p := ⟨w.heap.size + 1, 1, none⟩) (by simp) _
    | exact below_alloc (below_alloc (Below.refl _ _) _) _
    | trace_state
end Go.Proofs.Ytcbakmojhicahaa.Hand
end

section
namespace Go.Proofs.Ytcbakmojhicahaa.Hand
open Go.RowKit Go.Shelf Go.Proofs.YtcbakmojhicahaaW.PrintWords Go.Proofs.YtcbakmojhicahaaW.PrintLast Go.Proofs.YtcbakmojhicahaaW.PrintMore
set_option linter.unusedVariables false
set_option linter.unusedSimpArgs false

def pairT (x : S78) : List UInt8 × List UInt8 := (bl x.f0, bl x.f1)
theorem old_eq (x : S78) (t : Ty) : oldS t x = decide ((pairT x).1 = t.2) := by
  unfold oldS pairT
  rw [ByteArray.toList_eq, ByteArray.toList_eq]
  show (bl x.f0 == bl (lb t.2)) = decide (bl x.f0 = t.2)
  rw [bl_lb]
  by_cases h : bl x.f0 = t.2
  · simp [h]
  · simp [h]
theorem new_cons (x : S78) (xs : List (S78)) (t : Ty) : newOf ((x :: xs).map pairT) t.2 = if oldS t x = true then bl x.f1 else newOf (xs.map pairT) t.2 := by
  rw [old_eq]
  unfold newOf
  rw [List.map_cons, List.find?_cons]
  by_cases h : (pairT x).1 = t.2
  · simp [h]; rfl
  · simp [h]
theorem new_none : ∀ (xs : List (S78)) (t : Ty), (∀ x ∈ xs, oldS t x = false) → newOf (xs.map pairT) t.2 = t.2
  | [], t, _ => rfl
  | x :: xs, t, h => by
    rw [new_cons, h x (by simp), if_neg (by decide)]
    exact new_none xs t fun y hy => h y (by simp [hy])
theorem new_some : ∀ (xs : List (S78)) (t : Ty) (i : Nat) (hi : i < xs.length), oldS t xs[i] = true → (∀ (m : Nat) (hm : m < xs.length), m < i → oldS t xs[m] = false) → newOf (xs.map pairT) t.2 = bl xs[i].f1
  | [], t, i, hi, _, _ => absurd hi (Nat.not_lt_zero i)
  | x :: xs, t, 0, hi, h, _ => by
    rw [new_cons, if_pos (by simpa using h)]
    rfl
  | x :: xs, t, i + 1, hi, h, h2 => by
    rw [new_cons, if_neg (by have := h2 0 (by simp) (by omega); simp only [List.getElem_cons_zero] at this; rw [this]; decide)]
    exact new_some xs t i (by simpa using hi) (by simpa using h) fun m hm hmi => by
      have := h2 (m + 1) (by simpa using hm) (by omega)
      simpa using this
/-- Where the first pair stands, of which there is one. -/
theorem old_where (t : Ty) : ∀ xs : List (S78), (∀ x ∈ xs, oldS t x = false) ∨ ∃ i : Nat, ∃ hi : i < xs.length, oldS t xs[i] = true ∧ ∀ (m : Nat) (hm : m < xs.length), m < i → oldS t xs[m] = false
  | [] => .inl (by simp)
  | x :: xs => by
    cases hx : oldS t x with
    | true => exact .inr ⟨0, by simp, hx, fun m _ h => absurd h (Nat.not_lt_zero m)⟩
    | false =>
      rcases old_where t xs with h | ⟨i, hi, h1, h2⟩
      · left
        intro y hy
        simp only [List.mem_cons] at hy
        rcases hy with rfl | hy
        · exact hx
        · exact h y hy
      · refine .inr ⟨i + 1, by simpa using hi, by simpa using h1, fun m hm hmi => ?_⟩
        cases m with
        | zero => simpa using hx
        | succ m => simpa using h2 m (by simpa using hm) (by omega)
theorem index_none (A : Option Addr) (c : Nat) (xs : List (S78)) (w : World) (hC : Kd.C k78 w A xs.length xs) (hc : xs.length ≤ c) (hl : xs.length ≤ 1048576) (g : Nat) (t : Ty) (hs : TyAt w g t) (h : ∀ x ∈ xs, oldS t x = false) :
    Calls Try.prog 98 #[.slice A xs.length c, .func (.func 99) #[] #[.pointer (some ⟨g, 0, none⟩)]] w fun e w' => e = .returned (.int .i64 (-1)) ∧ Below w.heap.size w w' :=
  (index_old A c xs w hC hc hl g t hs).mono fun e w' ⟨j, h1, h2, h3⟩ => by
    rcases h2 with ⟨rfl, _⟩ | ⟨i, hi, rfl, h4, _⟩
    · exact ⟨h1, h3⟩
    · rw [h _ (List.getElem_mem hi)] at h4
      cases h4
theorem index_some (A : Option Addr) (c : Nat) (xs : List (S78)) (w : World) (hC : Kd.C k78 w A xs.length xs) (hc : xs.length ≤ c) (hl : xs.length ≤ 1048576) (g : Nat) (t : Ty) (hs : TyAt w g t) (i : Nat) (hi : i < xs.length) (h1 : oldS t xs[i] = true) (h2 : ∀ (m : Nat) (hm : m < xs.length), m < i → oldS t xs[m] = false) :
    Calls Try.prog 98 #[.slice A xs.length c, .func (.func 99) #[] #[.pointer (some ⟨g, 0, none⟩)]] w fun e w' => e = .returned (.int .i64 (i : Int)) ∧ Below w.heap.size w w' :=
  (index_old A c xs w hC hc hl g t hs).mono fun e w' ⟨j, g1, g2, g3⟩ => by
    rcases g2 with ⟨rfl, g4⟩ | ⟨i', hi', rfl, g4, g5⟩
    · rw [g4 _ (List.getElem_mem hi)] at h1
      cases h1
    · have : i' = i := by
        rcases Nat.lt_trichotomy i' i with h | h | h
        · rw [h2 i' hi' h] at g4; cases g4
        · exact h
        · rw [g5 i hi h] at h1; cases h1
      subst this
      exact ⟨g1, g3⟩
end Go.Proofs.Ytcbakmojhicahaa.Hand
end

section
namespace Go.Proofs.Ytcbakmojhicahaa.Hand
open Go.RowKit Go.Shelf Go.Proofs.YtcbakmojhicahaaW.PrintWords Go.Proofs.YtcbakmojhicahaaW.PrintLast Go.Proofs.YtcbakmojhicahaaW.PrintMore
set_option linter.unusedVariables false
set_option linter.unusedSimpArgs false

theorem ty_set0 {w : World} {g : Nat} {k0 : Int} {c : List UInt8} (h : TyAt w g (k0, c)) (k : Int) : TyAt (w.setCell ⟨g, 0, none⟩ (.int .i64 k)) g (k, c) := by
  have h2 := blk_set h 0 (.int .i64 k)
  simp only [List.setIfInBounds_toArray, List.set_cons_zero] at h2
  exact h2
theorem ty_set1 {w : World} {g : Nat} {k : Int} {c0 : List UInt8} (h : TyAt w g (k, c0)) (c : List UInt8) : TyAt (w.setCell ⟨g, 1, none⟩ (.string (lb c))) g (k, c) := by
  have h2 := blk_set h 1 (.string (lb c))
  simp only [List.setIfInBounds_toArray, List.set_cons_zero, List.set_cons_succ] at h2
  exact h2
set_option maxHeartbeats 16000000 in
set_option maxRecDepth 20000 in
/-- A type that names a class no pair stands for. -/
theorem ren_none (k : Int) (c : List UInt8) (A : Option Addr) (cp : Nat) (xs : List (S78)) (w : World) (hC : Kd.C k78 w A xs.length xs) (hcp : xs.length ≤ cp) (hl : xs.length ≤ 1048576) (h35 : k = 3 ∨ k = 5) (hn : ∀ x ∈ xs, oldS (k, c) x = false) :
    Calls Try.prog 44 #[.agg #[.int .i64 k, .string (lb c)], .slice A xs.length cp] w fun e w' => e = .returned (.agg #[.int .i64 k, .string (lb c)]) ∧ Below w.heap.size w w' := by
  have hmf : ∀ (fn : Fn) (first cap : Array Value) (w : World), (Instr.makeFunc fn first cap).run Try.prog w = .ok (.func fn first cap) w := fun _ _ _ _ => rfl
  obtain ⟨W1, hW1⟩ : ∃ W1, W1 = (w.alloc (.cells #[.int .i64 k, .string (lb c)] 54)).alloc (.cells #[.int .i64 0, .string ⟨#[]⟩] 54) := ⟨_, rfl⟩
  have hB1 : Below w.heap.size w W1 := by rw [hW1]; exact below_alloc (below_alloc (Below.refl _ _) _) _
  have hT1 : TyAt W1 w.heap.size (k, c) := by rw [hW1]; exact ty_kept (World.alloc_heap_new w (.cells #[.int .i64 k, .string (lb c)] 54)) (World.grownBy_alloc _ _ none) (by simp)
  have hR1 : TyAt W1 (w.heap.size + 1) (0, []) := by
    have := World.alloc_heap_new (w.alloc (.cells #[.int .i64 k, .string (lb c)] 54)) (.cells #[.int .i64 0, .string ⟨#[]⟩] 54)
    rw [World.size_alloc] at this
    rw [hW1]; exact this
  have HI := Aside0.mk (index_none A cp xs W1 (Kd.C_below hC hB1) hcp hl w.heap.size (k, c) hT1 hn)
  have HT := Aside0.mk hT1
  have HR := Aside0.mk hR1
  have HB := Aside0.mk hB1
  clear hC hn hT1 hR1 hB1
  rcases h35 with rfl | rfl
  all_goals go_enter Try.func44, Try.ntmps44
  all_goals go_wp2_with (go_at_call 98; rw [← hW1]; refine HI.out.mono ?_; rintro e w1 ⟨rfl, hb⟩; have HB1 := Aside0.mk (HB.out.trans (hb.mono HB.out.size)); obtain ⟨c0, c1, f0, f1⟩ := ty_cells (ty_below HT.out hb); obtain ⟨d0, d1, g0, g1⟩ := ty_cells (ty_below HR.out hb); have HR1 := Aside0.mk (ty_below HR.out hb); clear hb)
  · obtain ⟨q0, q1, _, _⟩ := ty_cells (ty_set HR1.out 3 c)
    obtain ⟨r0, _, _, _⟩ := ty_cells (ty_set0 HR1.out 3)
    refine ⟨rfl, .agg #[.int .i64 3, .string (lb c)], by simp [results, Try.results44, go_sem, q0, q1, r0], rfl, ?_⟩
    exact (HB1.out.setCell (p := ⟨w.heap.size + 1, 0, none⟩) (by simp) _).setCell (p := ⟨w.heap.size + 1, 1, none⟩) (by simp) _
  · obtain ⟨q0, q1, _, _⟩ := ty_cells (ty_set HR1.out 5 c)
    obtain ⟨r0, _, _, _⟩ := ty_cells (ty_set0 HR1.out 5)
    refine ⟨rfl, .agg #[.int .i64 5, .string (lb c)], by simp [results, Try.results44, go_sem, q0, q1, r0], rfl, ?_⟩
    exact (HB1.out.setCell (p := ⟨w.heap.size + 1, 0, none⟩) (by simp) _).setCell (p := ⟨w.heap.size + 1, 1, none⟩) (by simp) _
set_option maxHeartbeats 16000000 in
set_option maxRecDepth 20000 in
/-- A type that names a class that a pair stands for. -/
theorem ren_some (k : Int) (c : List UInt8) (A : Option Addr) (cp : Nat) (xs : List (S78)) (w : World) (hC : Kd.C k78 w A xs.length xs) (hcp : xs.length ≤ cp) (hl : xs.length ≤ 1048576) (h35 : k = 3 ∨ k = 5) (i : Nat) (hi : i < xs.length) (h1 : oldS (k, c) xs[i] = true) (h2 : ∀ (m : Nat) (hm : m < xs.length), m < i → oldS (k, c) xs[m] = false) :
    Calls Try.prog 44 #[.agg #[.int .i64 k, .string (lb c)], .slice A xs.length cp] w fun e w' => e = .returned (.agg #[.int .i64 k, .string (lb (bl xs[i].f1))]) ∧ Below w.heap.size w w' := by
  have hmf : ∀ (fn : Fn) (first cap : Array Value) (w : World), (Instr.makeFunc fn first cap).run Try.prog w = .ok (.func fn first cap) w := fun _ _ _ _ => rfl
  obtain ⟨W1, hW1⟩ : ∃ W1, W1 = (w.alloc (.cells #[.int .i64 k, .string (lb c)] 54)).alloc (.cells #[.int .i64 0, .string ⟨#[]⟩] 54) := ⟨_, rfl⟩
  have hB1 : Below w.heap.size w W1 := by rw [hW1]; exact below_alloc (below_alloc (Below.refl _ _) _) _
  have hT1 : TyAt W1 w.heap.size (k, c) := by rw [hW1]; exact ty_kept (World.alloc_heap_new w (.cells #[.int .i64 k, .string (lb c)] 54)) (World.grownBy_alloc _ _ none) (by simp)
  have hR1 : TyAt W1 (w.heap.size + 1) (0, []) := by
    have := World.alloc_heap_new (w.alloc (.cells #[.int .i64 k, .string (lb c)] 54)) (.cells #[.int .i64 0, .string ⟨#[]⟩] 54)
    rw [World.size_alloc] at this
    rw [hW1]; exact this
  have HI := Aside0.mk (index_some A cp xs W1 (Kd.C_below hC hB1) hcp hl w.heap.size (k, c) hT1 i hi h1 h2)
  have hx : rd_T78 xs (i : Int) = xs[i] := by
    unfold rd_T78
    rw [Int.toNat_natCast, List.getD_eq_getElem?_getD, List.getElem?_eq_getElem hi]
    rfl
  obtain ⟨ad, hA, _, _⟩ := at_T78 hC (i : Int) (by omega) (by omega)
  obtain ⟨l2, hl2⟩ : ∃ l2, bl xs[i].f1 = l2 := ⟨_, rfl⟩
  have HP : Aside0 (∀ W, Below w.heap.size w W → W.cell? ⟨(ad.add (i * 2)).block, (ad.add (i * 2)).off + 1, none⟩ = some (.string (lb l2))) := ⟨fun W hW => by
    obtain ⟨ad', hA', _, p1⟩ := at_T78 (Kd.C_below hC hW) (i : Int) (by omega) (by omega)
    rw [hA] at hA'
    obtain rfl := Option.some.inj hA'
    rw [hx, Int.toNat_natCast] at p1
    rw [← hl2, lb_bl]
    exact p1⟩
  rw [hl2]
  subst hA
  have HT := Aside0.mk hT1
  have HR := Aside0.mk hR1
  have HB := Aside0.mk hB1
  clear hC h1 h2 hT1 hR1 hB1 hx hl2
  rcases h35 with rfl | rfl
  all_goals go_enter Try.func44, Try.ntmps44
  all_goals go_wp2_with (go_at_call 98; rw [← hW1]; refine HI.out.mono ?_; rintro e w1 ⟨rfl, hb⟩; have HB1 := Aside0.mk (HB.out.trans (hb.mono HB.out.size)); have p1 := HP.out _ HB1.out; obtain ⟨c0, c1, f0, f1⟩ := ty_cells (ty_below HT.out hb); obtain ⟨d0, d1, g0, g1⟩ := ty_cells (ty_below HR.out hb); have HT1 := Aside0.mk (ty_below HT.out hb); have HR1 := Aside0.mk (ty_below HR.out hb); clear hb)
  all_goals have HK := Aside0.mk (ty_kept HR1.out (scan_setCell w1 ⟨w.heap.size, 1, none⟩ (.string (lb l2))) (by simp))
  · obtain ⟨q0, q1, _, _⟩ := ty_cells (ty_set HK.out 3 l2)
    obtain ⟨r0, _, _, _⟩ := ty_cells (ty_set0 HK.out 3)
    refine ⟨rfl, .agg #[.int .i64 3, .string (lb l2)], by simp [results, Try.results44, go_sem, q0, q1, r0], rfl, ?_⟩
    exact ((HB1.out.setCell (p := ⟨w.heap.size, 1, none⟩) (by simp) _).setCell (p := ⟨w.heap.size + 1, 0, none⟩) (by simp) _).setCell (p := ⟨w.heap.size + 1, 1, none⟩) (by simp) _
  · obtain ⟨q0, q1, _, _⟩ := ty_cells (ty_set HK.out 5 l2)
    obtain ⟨r0, _, _, _⟩ := ty_cells (ty_set0 HK.out 5)
    refine ⟨rfl, .agg #[.int .i64 5, .string (lb l2)], by simp [results, Try.results44, go_sem, q0, q1, r0], rfl, ?_⟩
    exact ((HB1.out.setCell (p := ⟨w.heap.size, 1, none⟩) (by simp) _).setCell (p := ⟨w.heap.size + 1, 0, none⟩) (by simp) _).setCell (p := ⟨w.heap.size + 1, 1, none⟩) (by simp) _
end Go.Proofs.Ytcbakmojhicahaa.Hand
end

section
namespace Go.Proofs.Ytcbakmojhicahaa.Hand
open Go.RowKit Go.Shelf Go.Proofs.YtcbakmojhicahaaW.PrintWords Go.Proofs.YtcbakmojhicahaaW.PrintLast Go.Proofs.YtcbakmojhicahaaW.PrintMore
set_option linter.unusedVariables false
set_option linter.unusedSimpArgs false

theorem text_len (t : Ty) : (textT classL t).length ≤ t.2.length + 3 := by
  unfold textT
  repeat' split
  all_goals simp
theorem texts_len (M : Nat) : ∀ xs : List (S54), (∀ x ∈ xs, x.f1.size ≤ M) → (xs.flatMap fun x => textT classL (ofS x)).length ≤ xs.length * (M + 3)
  | [], _ => by simp
  | x :: xs, h => by
    have h1 := texts_len M xs fun y hy => h y (by simp [hy])
    have h2 := text_len (ofS x)
    have h3 := h x (by simp)
    have h4 : (ofS x).2.length = x.f1.size := bl_len x.f1
    rw [List.flatMap_cons, List.length_append, List.length_cons, Nat.add_mul]
    omega
theorem bad_all (xs : List (S54)) : xs.any badS = !(xs.map ofS).all (paramT classL) := by
  induction xs with
  | nil => rfl
  | cons x xs ih =>
    rw [List.any_cons, ih, List.map_cons, List.all_cons, Bool.not_and]
    rfl
/-- What Desc has put together. -/
def preD (xs : List (S54)) (i : Nat) : List UInt8 := 40 :: (xs.take i).flatMap fun x => textT classL (ofS x)
theorem preD_succ (xs : List (S54)) (i : Nat) (hi : i < xs.length) : preD xs (i + 1) = preD xs i ++ textT classL (ofS xs[i]) := by
  unfold preD
  rw [List.take_add_one, List.getElem?_eq_getElem hi, List.flatMap_append]
  simp
theorem preD_all (xs : List (S54)) (t : Ty) : preD xs xs.length ++ 41 :: textT classL t = descText classL t (xs.map ofS) := by
  unfold preD descText
  rw [List.take_length, List.flatMap_map]
  rfl
theorem preD_len (M : Nat) (xs : List (S54)) (h : ∀ x ∈ xs, x.f1.size ≤ M) (i : Nat) (hi : i ≤ 8) : (preD xs i).length ≤ 1 + 8 * (M + 3) := by
  unfold preD
  have h1 := texts_len M (xs.take i) fun x hx => h x (List.mem_of_mem_take hx)
  have h2 : (xs.take i).length ≤ 8 := by rw [List.length_take]; omega
  have h3 : (xs.take i).length * (M + 3) ≤ 8 * (M + 3) := Nat.mul_le_mul_right _ h2
  rw [List.length_cons]
  omega
set_option maxHeartbeats 16000000 in
set_option maxRecDepth 20000 in
/-- What Desc refuses at once. -/
theorem desc_form (t : Ty) (A : Option Addr) (cp : Nat) (xs : List (S54)) (w : World) (hC : Kd.C k54 w A xs.length xs) (hcp : xs.length ≤ cp) (hl : xs.length ≤ 1048576) (hs : ∀ x ∈ xs, x.f1.size ≤ 140737488355328) (hc : t.2.length ≤ 140737488355328) (hbad : ¬ (rightT classL t = true ∧ xs.any badS = false)) :
    Calls Try.prog 41 #[.agg #[.int .i64 t.1, .string (lb t.2)], .slice A xs.length cp] w fun e w' => e = .returned (.tuple #[.string ⟨#[]⟩, .int .i64 1]) ∧ Below w.heap.size w w' := by
  obtain ⟨k, c⟩ := t
  simp only at hc hbad ⊢
  have HRt := Aside0.mk (fun W => kind_right k (lb c) W (by rw [lb_size]; omega))
  rw [bl_lb] at HRt
  have HBox := Aside0.mk (below_alloc (Below.refl w.heap.size w) (.cells #[.int .i64 k, .string (lb c)] 54))
  cases hr : rightT classL (k, c) with
  | false =>
    rw [hr] at HRt
    clear hbad
    go_enter Try.func41, Try.ntmps41
    go_wp2_with (go_at_call 33; refine (HRt.out _).mono ?_; rintro e w1 ⟨rfl, hb⟩; have HB1 := Aside0.mk (HBox.out.trans (hb.mono (by simp))); clear hb)
    go_ret2
    exact ⟨rfl, HB1.out⟩
  | true =>
    have ha : xs.any badS = true := by
      cases h : xs.any badS with
      | true => rfl
      | false => exact absurd ⟨hr, h⟩ hbad
    rw [hr] at HRt
    have HC := Aside0.mk (fun W (hW : Below w.heap.size w W) => contains_bad A cp xs W (Kd.C_below hC hW) hcp hl (fun x hx => by have := hs x hx; omega))
    rw [ha] at HC
    clear hbad hC hs
    go_enter Try.func41, Try.ntmps41
    go_wp2_with (first | (go_at_call 33; refine (HRt.out _).mono ?_; rintro e w1 ⟨rfl, hb⟩; have HB1 := Aside0.mk (HBox.out.trans (hb.mono (by simp))); clear hb) | (go_at_call 91; refine (HC.out _ HB1.out).mono ?_; rintro e w2 ⟨rfl, hb⟩; have HB2 := Aside0.mk (HB1.out.trans (hb.mono HB1.out.size)); clear hb))
    go_ret2
    exact ⟨rfl, HB2.out⟩
set_option maxHeartbeats 16000000 in
set_option maxRecDepth 20000 in
/-- What Desc says of types that can be. -/
theorem desc_good (t : Ty) (A : Option Addr) (cp : Nat) (xs : List (S54)) (w : World) (hC : Kd.C k54 w A xs.length xs) (hcp : xs.length ≤ cp) (hl : xs.length ≤ 1048576) (hs : ∀ x ∈ xs, x.f1.size ≤ 140737488355328) (hc : t.2.length ≤ 140737488355328) (hr : rightT classL t = true) (ha : xs.any badS = false) :
    Calls Try.prog 41 #[.agg #[.int .i64 t.1, .string (lb t.2)], .slice A xs.length cp] w fun e w' => e = .returned (.tuple #[.string (lb (if xs.length > 8 then ([], 3) else if (descText classL t (xs.map ofS)).length > 64 then ([], 3) else (descText classL t (xs.map ofS), (0 : Int))).1), .int .i64 (if xs.length > 8 then ([], 3) else if (descText classL t (xs.map ofS)).length > 64 then ([], 3) else (descText classL t (xs.map ofS), (0 : Int))).2]) ∧ Below w.heap.size w w' := by
  have HPA := Aside0.mk (preD_all xs t)
  obtain ⟨k, c⟩ := t
  simp only at hc ⊢
  have HRt := Aside0.mk (fun W => kind_right k (lb c) W (by rw [lb_size]; omega))
  rw [bl_lb, hr] at HRt
  have HBox := Aside0.mk (below_alloc (Below.refl w.heap.size w) (.cells #[.int .i64 k, .string (lb c)] 54))
  have HTy0 : Aside0 (TyAt (w.alloc (.cells #[.int .i64 k, .string (lb c)] 54)) w.heap.size (k, c)) := ⟨World.alloc_heap_new _ _⟩
  have HCB := Aside0.mk (fun W (hW : Below w.heap.size w W) => contains_bad A cp xs W (Kd.C_below hC hW) hcp hl (fun x hx => by have := hs x hx; omega))
  rw [ha] at HCB
  have HC := Aside0.mk hC
  have HS := Aside0.mk hs
  clear hC hs ha hr
  by_cases h8 : 8 < xs.length
  · rw [if_pos h8]
    have hd1 : decide ((8 : Int) < (xs.length : Int)) = true := decide_eq_true (by omega)
    have hd2 : decide (8 < xs.length) = true := decide_eq_true h8
    go_enter Try.func41, Try.ntmps41
    go_wp2_with (first | (go_at_call 33; refine (HRt.out _).mono ?_; rintro e w1 ⟨rfl, hb⟩; have HB1 := Aside0.mk (HBox.out.trans (hb.mono (by simp))); clear hb) | (go_at_call 91; refine (HCB.out _ HB1.out).mono ?_; rintro e w2 ⟨rfl, hb⟩; have HB2 := Aside0.mk (HB1.out.trans (hb.mono HB1.out.size)); clear hb))
    go_ret2
    exact ⟨rfl, HB2.out⟩
  · rw [if_neg h8]
    have hd1 : decide ((8 : Int) < (xs.length : Int)) = false := decide_eq_false (by omega)
    have hd2 : decide (8 < xs.length) = false := decide_eq_false h8
    have HN : Aside0 (xs.length ≤ 8) := ⟨by omega⟩
    have HL : Aside0 (∀ i, i ≤ xs.length → (preD xs i).length ≤ 1125899906842649) := ⟨fun i hi => by have := preD_len 140737488355328 xs HS.out i (by have := HN.out; omega); omega⟩
    have HTR := Aside0.mk (fun W => kind_text k (lb c) W (by rw [lb_size]; omega))
    rw [bl_lb] at HTR
    have hP0 : (⟨#[40]⟩ : ByteArray) = lb (preD xs 0) := rfl
    go_enter Try.func41, Try.ntmps41
    go_wp2_with (first | (go_at_call 33; refine (HRt.out _).mono ?_; rintro e w1 ⟨rfl, hb⟩; have HB1 := Aside0.mk (HBox.out.trans (hb.mono (by simp))); have HTy1 := Aside0.mk (ty_below HTy0.out hb); clear hb) | (go_at_call 91; refine (HCB.out _ HB1.out).mono ?_; rintro e w2 ⟨rfl, hb⟩; have HB2 := Aside0.mk (HB1.out.trans (hb.mono HB1.out.size)); have HTy2 := Aside0.mk (ty_below HTy1.out hb); clear hb))
    go_loopg [6, 21] xs.length (fun kq v6 v21 wr => ∃ i : Nat, v21 = .int .i64 (i : Int) ∧ v6 = .string (lb (preD xs i)) ∧ i + kq = xs.length ∧ Aside0 (Below w.heap.size w wr) ∧ Aside0 (TyAt wr w.heap.size (k, c)))
    case atStart => exact ⟨0, rfl, rfl, by omega, HB2, HTy2⟩
    case round =>
      obtain ⟨i, rfl, rfl, hi, HB, HTy⟩ := hrel
      by_cases hlt : i < xs.length
      · have hsz := HS.out xs[i] (List.getElem_mem hlt)
        obtain ⟨ad, hA, h0, h1⟩ := at_T54 (Kd.C_below HC.out HB.out) (i : Int) (by omega) (by omega)
        have hx : rd_T54 xs (i : Int) = xs[i] := by
          unfold rd_T54
          rw [Int.toNat_natCast, List.getD_eq_getElem?_getD, List.getElem?_eq_getElem hlt]
          rfl
        rw [hx, Int.toNat_natCast] at h0 h1
        have HSucc := Aside0.mk (preD_succ xs i hlt)
        have hz1 : (lb (preD xs i)).size ≤ 1125899906842649 := by rw [lb_size]; exact HL.out i (by omega)
        obtain ⟨x, hxe⟩ : ∃ x, xs[i] = x := ⟨_, rfl⟩
        rw [hxe] at h0 h1 hsz HSucc
        subst hA
        have HT := Aside0.mk (fun W => kind_text x.f0 x.f1 W (by omega))
        obtain ⟨tx, htx⟩ : ∃ tx, textT classL (x.f0, bl x.f1) = tx := ⟨_, rfl⟩
        have hz2 : (lb tx).size ≤ 140737488355331 := by
          rw [lb_size, ← htx]
          have h := text_len (x.f0, bl x.f1)
          simp only at h
          rw [bl_len] at h
          omega
        have hofx : textT classL (ofS x) = tx := htx
        rw [hofx] at HSucc
        rw [htx] at HT
        have hd : decide ((i : Int) < (xs.length : Int)) = true := decide_eq_true (by omega)
        clear hx hxe htx hofx hsz
        obtain ⟨pc, hpc⟩ : ∃ pc, lb (preD xs i) = pc := ⟨_, rfl⟩
        have HPc := Aside0.mk hpc
        rw [hpc] at hz1 ⊢
        clear hpc
        go_wp2_with (go_at_call 39; refine (HT.out _).mono ?_; rintro e w1 ⟨rfl, hb⟩; have hbb : Below wr.heap.size wr w1 := (below_alloc (Below.refl _ _) _).trans (hb.mono (by simp)); have HB1 := Aside0.mk (HB.out.trans (hbb.mono HB.out.size)); have HTy1 := Aside0.mk (ty_below HTy.out hbb); clear hb hbb)
        go_roundg (gk - 1)
        case measure => omega
        case rel =>
          refine ⟨i + 1, by simp, ?_, by omega, HB1, HTy1⟩
          rw [HSucc.out, ← HPc.out, ← lb_cat]
      · have hi2 : i = xs.length := by omega
        subst hi2
        have hd : decide (((xs.length : Nat) : Int) < (xs.length : Int)) = false := decide_eq_false (by omega)
        obtain ⟨c0, c1, f0, f1⟩ := ty_cells HTy.out
        obtain ⟨tr, htr⟩ : ∃ tr, textT classL (k, c) = tr := ⟨_, rfl⟩
        have hz1 : (lb (preD xs xs.length)).size ≤ 1125899906842649 := by rw [lb_size]; exact HL.out _ (by omega)
        have hz2 : (lb tr).size ≤ 140737488355331 := by
          rw [lb_size, ← htr]
          have h := text_len (k, c)
          simp only at h
          omega
        rw [htr] at HTR HPA
        have hcat : lb (preD xs xs.length) ++ ((⟨#[41]⟩ : ByteArray) ++ lb tr) = lb (descText classL (k, c) (xs.map ofS)) := by
          have e : (⟨#[41]⟩ : ByteArray) = lb [41] := rfl
          rw [e, lb_cat, lb_cat, ← HPA.out]
          rfl
        have hsize : (lb (preD xs xs.length)).size + (1 + (lb tr).size) = (descText classL (k, c) (xs.map ofS)).length := by
          rw [← HPA.out, List.length_append, List.length_cons, lb_size, lb_size]
          omega
        have HCat := Aside0.mk hcat
        clear hcat htr
        obtain ⟨pc, hpc⟩ : ∃ pc, lb (preD xs xs.length) = pc := ⟨_, rfl⟩
        rw [hpc] at hz1 hsize HCat ⊢
        clear hpc
        have h41 : (⟨#[41]⟩ : ByteArray).size = 1 := rfl
        by_cases h64 : (descText classL (k, c) (xs.map ofS)).length > 64
        · have hd3 : decide ((64 : Int) < ((pc.size + (1 + (lb tr).size) : Nat) : Int)) = true := decide_eq_true (by omega)
          have hd4 : decide (64 < pc.size + (1 + (lb tr).size)) = true := decide_eq_true (by omega)
          go_wp2_with (go_at_call 39; refine (HTR.out _).mono ?_; rintro e w1 ⟨rfl, hb⟩; have HB1 := Aside0.mk (HB.out.trans (hb.mono HB.out.size)); clear hb)
          go_ret2
          exact ⟨rfl, HB1.out⟩
        · have hd3 : decide ((64 : Int) < ((pc.size + (1 + (lb tr).size) : Nat) : Int)) = false := decide_eq_false (by omega)
          have hd4 : decide (64 < pc.size + (1 + (lb tr).size)) = false := decide_eq_false (by omega)
          go_wp2_with (go_at_call 39; refine (HTR.out _).mono ?_; rintro e w1 ⟨rfl, hb⟩; have HB1 := Aside0.mk (HB.out.trans (hb.mono HB.out.size)); clear hb)
          go_ret2
          exact ⟨by rw [← HCat.out]; rfl, HB1.out⟩
end Go.Proofs.Ytcbakmojhicahaa.Hand
end

section
namespace Go.Proofs.Ytcbakmojhicahaa.Hand
open Go.RowKit Go.Shelf Go.Proofs.YtcbakmojhicahaaW.PrintWords Go.Proofs.YtcbakmojhicahaaW.PrintLast Go.Proofs.YtcbakmojhicahaaW.PrintMore
set_option linter.unusedVariables false
set_option linter.unusedSimpArgs false

/-! ### RenamedType and Desc, by plain specifications -/
theorem kind_ren (k : Int) (c : ByteArray) (A : Option Addr) (cp : Nat) (xs : List (S78)) (w : World) (hC : Kd.C k78 w A xs.length xs) (hcp : xs.length ≤ cp) (hl : xs.length ≤ 1048576) :
    Calls Try.prog 44 #[.agg #[.int .i64 k, .string c], .slice A xs.length cp] w fun e w' => e = .returned (.agg #[.int .i64 (renT (xs.map pairT) (k, bl c)).1, .string (lb (renT (xs.map pairT) (k, bl c)).2)]) ∧ Below w.heap.size w w' := by
  unfold renT
  by_cases h35 : k = 3 ∨ k = 5
  · rw [if_pos h35]
    obtain ⟨c, rfl⟩ : ∃ l, c = lb l := ⟨bl c, (lb_bl c).symm⟩
    rw [bl_lb]
    rcases old_where (k, c) xs with hn | ⟨i, hi, h1, h2⟩
    · have e := new_none xs (k, c) hn
      simp only at e ⊢
      rw [e]
      exact ren_none k c A cp xs w hC hcp hl h35 hn
    · have e := new_some xs (k, c) i hi h1 h2
      simp only at e ⊢
      rw [e]
      exact ren_some k c A cp xs w hC hcp hl h35 i hi h1 h2
  · rw [if_neg h35]
    simp only
    rw [lb_bl]
    exact ren_stays k c A xs.length cp w (fun h => h35 (.inl h)) (fun h => h35 (.inr h))
theorem kind_desc (k : Int) (c : ByteArray) (A : Option Addr) (cp : Nat) (xs : List (S54)) (w : World) (hC : Kd.C k54 w A xs.length xs) (hcp : xs.length ≤ cp) (hl : xs.length ≤ 1048576) (hs : ∀ x ∈ xs, x.f1.size ≤ 140737488355328) (hc : c.size ≤ 140737488355328) :
    Calls Try.prog 41 #[.agg #[.int .i64 k, .string c], .slice A xs.length cp] w fun e w' => e = .returned (.tuple #[.string (lb (descD classL (k, bl c) (xs.map ofS)).1), .int .i64 (descD classL (k, bl c) (xs.map ofS)).2]) ∧ Below w.heap.size w w' := by
  obtain ⟨c, rfl⟩ : ∃ l, c = lb l := ⟨bl c, (lb_bl c).symm⟩
  rw [lb_size] at hc
  rw [bl_lb]
  unfold descD
  by_cases hg : rightT classL (k, c) = true ∧ (xs.map ofS).all (paramT classL) = true
  · rw [if_pos hg, List.length_map]
    exact desc_good (k, c) A cp xs w hC hcp hl hs hc hg.1 (by rw [bad_all, hg.2]; rfl)
  · rw [if_neg hg]
    exact desc_form (k, c) A cp xs w hC hcp hl hs hc (fun h => hg ⟨h.1, by have h2 := h.2; rw [bad_all] at h2; simpa using h2⟩)
def kind_RenamedType.f (k : Int) (c : ByteArray) (l : List (S78)) : Option (Int × ByteArray) := if l.length ≤ 1048576 then some ((renT (l.map pairT) (k, bl c)).1, lb (renT (l.map pairT) (k, bl c)).2) else none
theorem kind_RenamedType.calls (a0_0 : Int) (a0_1 : ByteArray) (A1 : Option Addr) (c1 : Nat) (l1 : List (S78)) (r1 : Int) (r2 : ByteArray) (w : World) (hr1 : Kd.C k78 w A1 l1.length l1) (hc1 : l1.length ≤ c1) (h : kind_RenamedType.f a0_0 a0_1 l1 = some (r1, r2)) :
    Calls Try.prog 44 #[.agg #[.int .i64 a0_0, .string a0_1], .slice A1 l1.length c1] w fun e w' => e = .returned (.agg #[.int .i64 r1, .string r2]) ∧ Below w.heap.size w w' := by
  unfold kind_RenamedType.f at h
  split at h
  · rename_i hs
    cases h
    exact kind_ren a0_0 a0_1 A1 c1 l1 w hr1 hc1 hs
  · cases h
def shortS (xs : List (S54)) : Bool := xs.all fun x => decide (x.f1.size ≤ 140737488355328)
theorem short_mem {xs : List (S54)} (h : shortS xs = true) : ∀ x ∈ xs, x.f1.size ≤ 140737488355328 := fun x hx => of_decide_eq_true (List.all_eq_true.1 h x hx)
def kind_Desc.f (k : Int) (c : ByteArray) (l : List (S54)) : Option (ByteArray × Int) := if c.size ≤ 140737488355328 ∧ l.length ≤ 1048576 ∧ shortS l = true then some (lb (descD classL (k, bl c) (l.map ofS)).1, (descD classL (k, bl c) (l.map ofS)).2) else none
theorem kind_Desc.calls (a0_0 : Int) (a0_1 : ByteArray) (A1 : Option Addr) (c1 : Nat) (l1 : List (S54)) (r1 : ByteArray) (r2 : Int) (w : World) (hr1 : Kd.C k54 w A1 l1.length l1) (hc1 : l1.length ≤ c1) (h : kind_Desc.f a0_0 a0_1 l1 = some (r1, r2)) :
    Calls Try.prog 41 #[.agg #[.int .i64 a0_0, .string a0_1], .slice A1 l1.length c1] w fun e w' => e = .returned (.tuple #[.string r1, .int .i64 r2]) ∧ Below w.heap.size w w' := by
  unfold kind_Desc.f at h
  split at h
  · rename_i hs
    cases h
    exact kind_desc a0_0 a0_1 A1 c1 l1 w hr1 hc1 hs.2.1 (short_mem hs.2.2) hs.1
  · cases h
end Go.Proofs.Ytcbakmojhicahaa.Hand
end

section
namespace Go.Proofs.Ytcbakmojhicahaa.Hand
open Go.RowKit Go.Proofs.YtcbakmojhicahaaW.PrintWords Go.Proofs.YtcbakmojhicahaaW.PrintLast Go.Proofs.YtcbakmojhicahaaW.PrintMore
set_option linter.unusedVariables false
set_option linter.unusedSimpArgs false

/-! ### lists of types -/
theorem ofS_inj {x y : S54} (h : ofS x = ofS y) : x = y := by
  obtain ⟨a, b⟩ := x
  obtain ⟨c, d⟩ := y
  unfold ofS at h
  simp only [Prod.mk.injEq] at h
  obtain ⟨rfl, h2⟩ := h
  rw [bl_inj h2]
theorem rdT_get (xs : List (S54)) (i : Nat) (hi : i < xs.length) : rd_T54 xs (i : Int) = xs[i] := by
  unfold rd_T54
  rw [Int.toNat_natCast, List.getD_eq_getElem?_getD, List.getElem?_eq_getElem hi]
  rfl
theorem rdP_get (xs : List (S78)) (i : Nat) (hi : i < xs.length) : rd_T78 xs (i : Int) = xs[i] := by
  unfold rd_T78
  rw [Int.toNat_natCast, List.getD_eq_getElem?_getD, List.getElem?_eq_getElem hi]
  rfl
theorem class_len {l : List UInt8} (h : classL l = true) : l.length ≤ 32 := by
  unfold classL ofL at h
  simp only [Bool.and_eq_true, decide_eq_true_iff] at h
  exact h.2.2
theorem right_len {t : Ty} (h : rightT classL t = true) : t.2.length ≤ 32 := by
  rcases right_cases h with ⟨_, e⟩ | ⟨_, e⟩ | ⟨_, e⟩ | ⟨_, e⟩ | ⟨_, e⟩
  · rw [e]; simp
  · rw [e]; simp
  · exact class_len e
  · rw [e]; simp
  · exact class_len e
theorem split_short (l : List UInt8) : (splitD classL l).1.length ≤ 8 ∧ (∀ t ∈ (splitD classL l).1, t.2.length ≤ 32) ∧ (splitD classL l).2.1.2.length ≤ 32 := by
  obtain ⟨ps, t, e, hq⟩ : ∃ ps t e, splitD classL l = (ps, t, e) := ⟨_, _, _, rfl⟩
  rw [hq]
  rcases split_err hq with rfl | ⟨rfl, rfl, _⟩
  · have h1 := types_right hq
    refine ⟨?_, fun x hx => right_len (h1 x (by simp [hx])), right_len (h1 t (by simp))⟩
    have h2 := desc_split hq
    unfold descD at h2
    split at h2
    · split at h2
      · simp at h2
      · simp only; omega
    · simp at h2
  · simp
theorem renT_len {L : List (List UInt8 × List UInt8)} {M : Nat} (hL : ∀ p ∈ L, p.2.length ≤ M) {t : Ty} (ht : t.2.length ≤ M) : (renT L t).2.length ≤ M := by
  unfold renT
  split
  · unfold newOf
    simp only
    split
    · rename_i p hp
      exact hL p (List.mem_of_find?_eq_some hp)
    · exact ht
  · exact ht
/-- A type with another name, as it lies in a list. -/
def renS (l : List (S78)) (x : S54) : S54 := toS (renT (l.map pairT) (ofS x))
theorem ofS_toS (t : Ty) : ofS (toS t) = t := by
  unfold ofS toS
  rfl
theorem toS_ofS (x : S54) : toS (ofS x) = x := ofS_inj (ofS_toS _)
theorem ren_map (l : List (S78)) (ps : List Ty) : ((ps.map toS).map (renS l)).map ofS = ps.map (renT (l.map pairT)) := by
  rw [List.map_map, List.map_map]
  apply List.map_congr_left
  intro t _
  unfold renS
  simp only [Function.comp_apply, ofS_toS]
def shortP (l : List (S78)) : Bool := l.all fun x => decide (x.f1.size ≤ 140737488355328)
theorem shortP_mem {l : List (S78)} (h : shortP l = true) : ∀ x ∈ l, x.f1.size ≤ 140737488355328 := fun x hx => of_decide_eq_true (List.all_eq_true.1 h x hx)
end Go.Proofs.Ytcbakmojhicahaa.Hand
end

section
namespace Go.Proofs.Ytcbakmojhicahaa.Hand
open Go.RowKit Go.Shelf Go.Proofs.YtcbakmojhicahaaW.PrintWords Go.Proofs.YtcbakmojhicahaaW.PrintLast Go.Proofs.YtcbakmojhicahaaW.PrintMore
set_option linter.unusedVariables false
set_option linter.unusedSimpArgs false

/-! ### a row of types that is written into -/
theorem add_row (g n : Nat) : (⟨g, 0, none⟩ : Addr).add n = ⟨g, n, none⟩ := by
  unfold Addr.add
  by_cases hn : n = 0
  · subst hn; rfl
  · rw [if_neg hn, Nat.zero_add]
/-- Types that lie in a block. -/
def RowT (w : World) (g : Nat) (xs : List (S54)) : Prop := ∃ cs : Array Value, w.heap[g]? = some (.cells cs 54 (0, 0)) ∧ ∀ (i : Nat) (hi : i < xs.length), cs[i * 2]? = some (.int .i64 xs[i].f0) ∧ cs[i * 2 + 1]? = some (.string xs[i].f1)
theorem rowT_block {w w' : World} {g : Nat} {xs : List (S54)} (h : RowT w g xs) (hb : w'.heap[g]? = w.heap[g]?) : RowT w' g xs := by
  obtain ⟨cs, h1, h2⟩ := h
  exact ⟨cs, hb.trans h1, h2⟩
theorem rowT_lt {w : World} {g : Nat} {xs : List (S54)} (h : RowT w g xs) : g < w.heap.size := by
  obtain ⟨cs, h1, _⟩ := h
  exact (Array.getElem?_eq_some_iff.1 h1).1
theorem rowT_cells {w : World} {g : Nat} {xs : List (S54)} (h : RowT w g xs) (i : Nat) (hi : i < xs.length) : w.cell? ⟨g, i * 2, none⟩ = some (.int .i64 xs[i].f0) ∧ w.cell? ⟨g, i * 2 + 1, none⟩ = some (.string xs[i].f1) ∧ w.frozen? ⟨g, i * 2, none⟩ = false ∧ w.frozen? ⟨g, i * 2 + 1, none⟩ = false := by
  obtain ⟨cs, h1, h2⟩ := h
  exact ⟨(blk_cell h1 _).trans (h2 i hi).1, (blk_cell h1 _).trans (h2 i hi).2, blk_frozen h1 _, blk_frozen h1 _⟩
theorem rowT_second {w : World} {g : Nat} {xs : List (S54)} (h : RowT w g xs) (i : Nat) (hi : i < xs.length) (v : Value) : (w.setCell ⟨g, i * 2, none⟩ v).cell? ⟨g, i * 2 + 1, none⟩ = some (.string xs[i].f1) ∧ (w.setCell ⟨g, i * 2, none⟩ v).frozen? ⟨g, i * 2 + 1, none⟩ = false := by
  obtain ⟨cs, h1, h2⟩ := h
  have h3 := blk_set h1 (i * 2) v
  refine ⟨?_, blk_frozen h3 _⟩
  rw [blk_cell h3, Array.getElem?_setIfInBounds, if_neg (by omega)]
  exact (h2 i hi).2
theorem rowT_set {w : World} {g : Nat} {xs : List (S54)} (h : RowT w g xs) (i : Nat) (hi : i < xs.length) (k : Int) (c : ByteArray) : RowT ((w.setCell ⟨g, i * 2, none⟩ (.int .i64 k)).setCell ⟨g, i * 2 + 1, none⟩ (.string c)) g (xs.set i ⟨k, c⟩) := by
  obtain ⟨cs, h1, h2⟩ := h
  refine ⟨_, blk_set (blk_set h1 _ _) _ _, fun j hj => ?_⟩
  rw [List.length_set] at hj
  have hz : i * 2 + 1 < cs.size := (Array.getElem?_eq_some_iff.1 (h2 i hi).2).1
  simp only [Array.getElem?_setIfInBounds, Array.size_setIfInBounds]
  by_cases e : i = j
  · subst e
    rw [if_neg (by omega), if_pos rfl, if_pos (by omega), if_pos rfl, if_pos (by omega)]
    simp
  · rw [if_neg (by omega), if_neg (by omega), if_neg (by omega), if_neg (by omega), List.getElem_set_ne e]
    exact h2 j hj
theorem rowT_C {w : World} {g : Nat} {xs : List (S54)} (h : RowT w g xs) (hl : xs.length ≤ 9223372036854775807) : Kd.C k54 w (some ⟨g, 0, none⟩) xs.length xs := by
  obtain ⟨cs, h1, h2⟩ := h
  refine ⟨rfl, hl, fun _ => ⟨⟨g, 0, none⟩, rfl, fun j p hp => ⟨[.int .i64 p.f0, .string p.f1], rfl, k54_mk w p, fun i u hu => ?_⟩⟩⟩
  obtain ⟨hj, rfl⟩ := List.getElem?_eq_some_iff.1 hp
  have h3 := h2 j hj
  rw [show (k54).sz = 2 from rfl, add_row, blk_cell h1]
  match i, hu with
  | 0, hu => cases hu; exact h3.1
  | 1, hu => cases hu; exact h3.2
  | i + 2, hu => simp at hu
theorem rowT_R {w : World} {base : Nat} {ok : Nat → Prop} {v : Value} {xs : List (S54)} (h : Kd.R k54 54 w base ok v xs) : (v = .slice none 0 0 ∧ xs = []) ∨ ∃ g cap, v = .slice (some ⟨g, 0, none⟩) xs.length cap ∧ base ≤ g ∧ xs.length ≤ cap ∧ RowT w g xs := by
  obtain ⟨_, inner, ⟨hz, ho⟩, hr1, hr2⟩ := h
  rcases ho with ⟨rfl, hn⟩ | ⟨g, cap, cur, rfl, hb, hh, hn, _, hcz, hcur⟩
  · exact .inl ⟨rfl, List.eq_nil_of_length_eq_zero hn⟩
  · refine .inr ⟨g, cap, rfl, hb, hn, cur, hh, fun i hi => ?_⟩
    have h3 := k54_openM (hr2 i xs[i] (List.getElem?_eq_getElem hi))
    have hsz : (k54).sz = 2 := rfl
    rw [hsz] at h3 hcur hz hcz
    have get : ∀ j, j < 2 → cur[i * 2 + j]? = ([.int .i64 xs[i].f0, .string xs[i].f1] : List Value)[j]? := fun j hj => by
      have e : ((inner.drop (i * 2)).take 2)[j]? = cur[i * 2 + j]? := by
        rw [List.getElem?_take_of_lt hj, List.getElem?_drop, ← hcur, List.getElem?_take_of_lt (by omega), Array.getElem?_toList]
      rw [← e, h3]
    exact ⟨get 0 (by decide), get 1 (by decide)⟩
/-- The same where there may be none. -/
def RowO (w : World) (A : Option Addr) (xs : List (S54)) : Prop := xs = [] ∨ ∃ g, A = some ⟨g, 0, none⟩ ∧ RowT w g xs
theorem rowO_C {w : World} {A : Option Addr} {xs : List (S54)} (h : RowO w A xs) (hl : xs.length ≤ 9223372036854775807) : Kd.C k54 w A xs.length xs := by
  rcases h with rfl | ⟨g, rfl, h⟩
  · exact ⟨rfl, by decide, fun h => absurd h (Nat.lt_irrefl 0)⟩
  · exact rowT_C h hl
theorem rowO_below {w w' : World} {A : Option Addr} {xs : List (S54)} (h : RowO w A xs) (hb : Below w.heap.size w w') : RowO w' A xs := by
  rcases h with rfl | ⟨g, rfl, h⟩
  · exact .inl rfl
  · exact .inr ⟨g, rfl, rowT_block h (hb.block g (rowT_lt h))⟩
/-- How far the types have their other names. -/
def renTo (l : List (S78)) (xs : List (S54)) (i : Nat) : List (S54) := (xs.take i).map (renS l) ++ xs.drop i
theorem renTo_len (l : List (S78)) (xs : List (S54)) (i : Nat) (hi : i ≤ xs.length) : (renTo l xs i).length = xs.length := by
  unfold renTo
  rw [List.length_append, List.length_map, List.length_take, List.length_drop]
  omega
theorem renTo_get (l : List (S78)) (xs : List (S54)) (i : Nat) (hi : i < xs.length) : (renTo l xs i)[i]'(by rw [renTo_len l xs i (by omega)]; exact hi) = xs[i] := by
  unfold renTo
  have hl : ((xs.take i).map (renS l)).length = i := by rw [List.length_map, List.length_take]; omega
  rw [List.getElem_append_right (by omega)]
  simp only [List.getElem_drop, hl, Nat.sub_self, Nat.add_zero]
theorem renTo_set (l : List (S78)) (xs : List (S54)) (i : Nat) (hi : i < xs.length) : (renTo l xs i).set i (renS l xs[i]) = renTo l xs (i + 1) := by
  unfold renTo
  have hl : ((xs.take i).map (renS l)).length = i := by rw [List.length_map, List.length_take]; omega
  rw [List.set_append_right i _ (by omega), hl, Nat.sub_self, List.drop_eq_getElem_cons hi, List.set_cons_zero, List.take_add_one, List.getElem?_eq_getElem hi, List.map_append]
  simp
theorem renTo_all (l : List (S78)) (xs : List (S54)) : renTo l xs xs.length = xs.map (renS l) := by
  unfold renTo
  rw [List.take_length, List.drop_length, List.append_nil]
end Go.Proofs.Ytcbakmojhicahaa.Hand
end

section
namespace Go.Proofs.Ytcbakmojhicahaa.Hand
open Go.RowKit Go.Shelf Go.Proofs.YtcbakmojhicahaaW.PrintWords Go.Proofs.YtcbakmojhicahaaW.PrintLast Go.Proofs.YtcbakmojhicahaaW.PrintMore
set_option linter.unusedVariables false
set_option linter.unusedSimpArgs false

theorem rowO_R {w : World} {base : Nat} {ok : Nat → Prop} {v : Value} {xs : List (S54)} (h : Kd.R k54 54 w base ok v xs) {n : Nat} (hn : xs.length = n) : ∃ (A : Option Addr) (c : Nat), v = .slice A n c ∧ RowO w A xs ∧ (∀ a, A = some a → base ≤ a.block ∧ a.block < w.heap.size) ∧ n ≤ c := by
  rcases rowT_R h with ⟨rfl, rfl⟩ | ⟨g, cap, rfl, hb, hc, hr⟩
  · subst hn
    exact ⟨none, 0, rfl, .inl rfl, fun a ha => (by cases ha), Nat.le_refl _⟩
  · subst hn
    exact ⟨_, cap, rfl, .inr ⟨g, rfl, hr⟩, fun a ha => (by cases ha; exact ⟨hb, rowT_lt hr⟩), hc⟩
/-- Where a type stands in the row, and that it can be written there. -/
theorem rowO_at {w : World} {A : Option Addr} {xs : List (S54)} (h : RowO w A xs) (i : Nat) (hi : i < xs.length) : ∃ g : Nat, A = some ⟨g, 0, none⟩ ∧ RowT w g xs := by
  rcases h with rfl | h
  · simp at hi
  · exact h
theorem renS_short (l : List (S78)) (hL : ∀ x ∈ l, x.f1.size ≤ 140737488355328) (x : S54) (hx : x.f1.size ≤ 140737488355328) : (renS l x).f1.size ≤ 140737488355328 := by
  have hL2 : ∀ p ∈ l.map pairT, p.2.length ≤ 140737488355328 := fun p hp => by
    obtain ⟨x, hx, rfl⟩ := List.mem_map.1 hp
    show (bl x.f1).length ≤ _
    rw [bl_len]
    exact hL x hx
  show (lb (renT (l.map pairT) (ofS x)).2).size ≤ _
  rw [lb_size]
  exact renT_len hL2 (by show (bl x.f1).length ≤ _; rw [bl_len]; exact hx)
set_option maxHeartbeats 16000000 in
set_option maxRecDepth 20000 in
theorem kind_renamed (s : ByteArray) (A : Option Addr) (cp : Nat) (l : List (S78)) (w : World) (hM : MaxL w) (hs : s.size ≤ 1048576) (hC : Kd.C k78 w A l.length l) (hcp : l.length ≤ cp) (hl : l.length ≤ 1048576) (hL : ∀ x ∈ l, x.f1.size ≤ 140737488355328) :
    Calls Try.prog 46 #[.string s, .slice A l.length cp] w fun e w' => e = .returned (.string (lb (renD classL (bl s) (l.map pairT)))) ∧ Below w.heap.size w w' := by
  have hSp := kind_split s w hM hs
  obtain ⟨h8, hps32, ht32⟩ := split_short (bl s)
  obtain ⟨ps, t, e, hq⟩ : ∃ ps t e, splitD classL (bl s) = (ps, t, e) := ⟨_, _, _, rfl⟩
  unfold endSp at hSp
  rw [hq] at hSp h8 hps32 ht32
  simp only at h8 hps32 ht32
  by_cases h0 : e = 0
  · subst h0
    have hren : renD classL (bl s) (l.map pairT) = (descD classL (renT (l.map pairT) t) (ps.map (renT (l.map pairT)))).1 := by
      unfold renD
      rw [hq]
      rfl
    rw [hren]
    have HSp := Aside0.mk hSp
    have HXs : Aside0 (∀ x ∈ ps.map toS, x.f1.size ≤ 140737488355328) := ⟨fun x hx => by
      obtain ⟨y, hy, rfl⟩ := List.mem_map.1 hx
      show (lb y.2).size ≤ _
      rw [lb_size]
      have := hps32 y hy
      omega⟩
    have HR := Aside0.mk (fun (k : Int) (c : ByteArray) (W : World) (hW : Below w.heap.size w W) => kind_ren k c A cp l W (Kd.C_below hC hW) hcp hl)
    have HT32 := Aside0.mk ht32
    have HRS := Aside0.mk (renS_short l hL)
    have HRM := Aside0.mk (ren_map l ps)
    obtain ⟨k, c⟩ := t
    have h8' : ps.length ≤ 8 := h8
    clear hSp hq h8 hps32 ht32 hC hM hren hL
    go_enter Try.func46, Try.ntmps46
    go_wp2_with (go_at_call 42; refine HSp.out.mono ?_; rintro e w1 ⟨v, rfl, hrow, hb⟩; obtain ⟨A5, c5, rfl, hRO, hA5, hc5⟩ := rowO_R hrow (n := ps.length) (by rw [List.length_map]); have HRO := Aside0.mk hRO; have HA5 := Aside0.mk hA5; have HB1 := Aside0.mk hb; have HTy1 : Aside0 (TyAt (w1.alloc (.cells #[.int .i64 k, .string (lb c)] 54)) w1.heap.size (k, c)) := ⟨World.alloc_heap_new _ _⟩; have HBx := Aside0.mk (below_alloc hb (.cells #[.int .i64 k, .string (lb c)] 54)); have HRx := Aside0.mk (rowO_below hRO (below_alloc (Below.refl _ w1) (.cells #[.int .i64 k, .string (lb c)] 54))); clear hrow hRO hA5 hb)
    go_loopg [22] ps.length (fun kq v22 wr => ∃ i : Nat, v22 = .int .i64 (i : Int) ∧ i + kq = ps.length ∧ Aside0 (Below w.heap.size w wr) ∧ Aside0 (TyAt wr w1.heap.size (k, c)) ∧ Aside0 (RowO wr A5 (renTo l (ps.map toS) i)))
    case atStart => exact ⟨0, rfl, by omega, HBx, HTy1, HRx⟩
    case round =>
      obtain ⟨i, rfl, hi, HB, HTy, HRow⟩ := hrel
      have HLen := Aside0.mk (renTo_len l (ps.map toS) i (by rw [List.length_map]; omega))
      by_cases hlt : i < ps.length
      · have hi2 : i < (ps.map toS).length := by rw [List.length_map]; exact hlt
        have hi3 : i < (renTo l (ps.map toS) i).length := by rw [HLen.out]; exact hi2
        obtain ⟨g, hg, _⟩ := rowO_at HRow.out i hi3
        obtain ⟨ad, hAd⟩ : ∃ ad : Addr, ad = ⟨g, 0, none⟩ := ⟨_, rfl⟩
        rw [← hAd] at hg
        subst hg
        have HGb := Aside0.mk (HA5.out _ rfl)
        have HAd := Aside0.mk hAd
        have HCells : Aside0 (∀ W, RowO W (some ad) (renTo l (ps.map toS) i) → RowT W g (renTo l (ps.map toS) i)) := ⟨fun W hW => by
          obtain ⟨g', hg', hr⟩ := rowO_at hW i hi3
          rw [HAd.out] at hg'
          cases hg'
          exact hr⟩
        have HGet := Aside0.mk (renTo_get l (ps.map toS) i hi2)
        have HSet := Aside0.mk (renTo_set l (ps.map toS) i hi2)
        obtain ⟨x, hx⟩ : ∃ x, (ps.map toS)[i] = x := ⟨_, rfl⟩
        rw [hx] at HGet HSet
        have HCell2 : Aside0 (∀ W, Below wr.heap.size wr W → W.cell? (ad.add (i * 2)) = some (.int .i64 x.f0) ∧ W.cell? ⟨(ad.add (i * 2)).block, (ad.add (i * 2)).off + 1, none⟩ = some (.string x.f1) ∧ W.frozen? (ad.add (i * 2)) = false ∧ W.frozen? ⟨(ad.add (i * 2)).block, (ad.add (i * 2)).off + 1, none⟩ = false) := ⟨fun W hW => by
          have h := rowT_cells (HCells.out _ (rowO_below HRow.out hW)) i hi3
          rw [HGet.out] at h
          rw [HAd.out, add_row]
          exact h⟩
        obtain ⟨p0, p1, q0, q1⟩ := HCell2.out wr (Below.refl _ _)
        have HCell3 : Aside0 (∀ W, Below wr.heap.size wr W → ∀ v, (W.setCell (ad.add (i * 2)) v).cell? ⟨(ad.add (i * 2)).block, (ad.add (i * 2)).off + 1, none⟩ = some (.string x.f1) ∧ (W.setCell (ad.add (i * 2)) v).frozen? ⟨(ad.add (i * 2)).block, (ad.add (i * 2)).off + 1, none⟩ = false) := ⟨fun W hW v => by
          have h := rowT_second (HCells.out _ (rowO_below HRow.out hW)) i hi3 v
          rw [HGet.out] at h
          rw [HAd.out, add_row]
          exact h⟩
        have HRen := Aside0.mk (fun (W : World) (hW : Below w.heap.size w W) => HR.out x.f0 x.f1 W hW)
        obtain ⟨k2, hk2⟩ : ∃ k2, (renT (l.map pairT) (x.f0, bl x.f1)).1 = k2 := ⟨_, rfl⟩
        obtain ⟨c2, hc2⟩ : ∃ c2, (renT (l.map pairT) (x.f0, bl x.f1)).2 = c2 := ⟨_, rfl⟩
        have hrs : renS l x = ⟨k2, lb c2⟩ := by
          rw [← hk2, ← hc2]
          rfl
        rw [hk2, hc2] at HRen
        rw [hrs] at HSet
        have hd : decide ((i : Int) < (ps.length : Int)) = true := decide_eq_true (by omega)
        have HI3 := Aside0.mk hi3
        clear hx hk2 hc2 hrs hAd
        go_wp2_with (go_at_call 44; refine (HRen.out _ (below_alloc HB.out _)).mono ?_; rintro e w2 ⟨rfl, hb⟩; have hbb : Below wr.heap.size wr w2 := (below_alloc (Below.refl _ _) _).trans (hb.mono (by simp)); have HB2 := Aside0.mk hbb; obtain ⟨s0, s1, t0, t1⟩ := HCell2.out _ hbb; obtain ⟨s2, t2⟩ := HCell3.out _ hbb (.int .i64 k2); clear hb hbb)
        go_roundg (gk - 1)
        case measure => omega
        case rel =>
          have hE : ad.add (i * 2) = ⟨g, i * 2, none⟩ := by rw [HAd.out, add_row]
          have hgb := HGb.out
          rw [HAd.out] at hgb
          simp only at hgb
          simp only [hE]
          refine ⟨i + 1, by simp, by omega, ⟨?_⟩, ⟨?_⟩, ⟨?_⟩⟩
          · exact ((HB.out.trans (HB2.out.mono HB.out.size)).setCell (p := ⟨g, i * 2, none⟩) hgb.1 _).setCell (p := ⟨g, i * 2 + 1, none⟩) hgb.1 _
          · exact ty_kept (ty_kept (ty_below HTy.out HB2.out) (scan_setCell w2 ⟨g, i * 2, none⟩ _) (by simp; omega)) (scan_setCell _ ⟨g, i * 2 + 1, none⟩ _) (by simp; omega)
          · have h := rowT_set (HCells.out _ (rowO_below HRow.out HB2.out)) i HI3.out k2 (lb c2)
            rw [HSet.out] at h
            exact .inr ⟨g, by rw [HAd.out], h⟩
      · have hi2 : i = ps.length := by omega
        have hd : decide ((i : Int) < (ps.length : Int)) = false := decide_eq_false (by omega)
        obtain ⟨c0, c1, f0, f1⟩ := ty_cells HTy.out
        have hrow := HRow.out
        have hall := renTo_all l (ps.map toS)
        rw [List.length_map] at hall
        rw [hi2, hall] at hrow
        obtain ⟨xs, hxs⟩ : ∃ xs, (ps.map toS).map (renS l) = xs := ⟨_, rfl⟩
        have hlen : xs.length = ps.length := by rw [← hxs, List.length_map, List.length_map]
        have HXs2 : ∀ y ∈ xs, y.f1.size ≤ 140737488355328 := fun y hy => by
          rw [← hxs] at hy
          obtain ⟨x, hx, rfl⟩ := List.mem_map.1 hy
          exact HRS.out x (HXs.out x hx)
        have hxo : xs.map ofS = ps.map (renT (l.map pairT)) := by rw [← hxs]; exact HRM.out
        rw [hxs] at hrow
        obtain ⟨k2, hk2⟩ : ∃ k2, (renT (l.map pairT) (k, c)).1 = k2 := ⟨_, rfl⟩
        obtain ⟨c2, hc2⟩ : ∃ c2, (renT (l.map pairT) (k, c)).2 = c2 := ⟨_, rfl⟩
        have hkc : renT (l.map pairT) (k, c) = (k2, c2) := by rw [← hk2, ← hc2]
        have hc2l : (lb c2).size ≤ 140737488355328 := by
          have h := HRS.out ⟨k, lb c⟩ (by show (lb c).size ≤ _; rw [lb_size]; have := HT32.out; omega)
          have e : (renS l ⟨k, lb c⟩).f1 = lb c2 := by
            show lb (renT (l.map pairT) (k, bl (lb c))).2 = lb c2
            rw [bl_lb, hc2]
          rw [e] at h
          exact h
        have HRen := Aside0.mk (fun (W : World) (hW : Below w.heap.size w W) => HR.out k (lb c) W hW)
        rw [bl_lb, hk2, hc2] at HRen
        have HD := Aside0.mk (fun (W : World) (hW : Below wr.heap.size wr W) => kind_desc k2 (lb c2) A5 c5 xs W (rowO_C (rowO_below hrow hW) (by omega)) (by omega) (by omega) HXs2 hc2l)
        rw [bl_lb, hxo, hlen] at HD
        clear hrow HXs2 hxo hall hxs hlen hk2 hc2 hc2l
        have HKC := Aside0.mk hkc
        clear hkc
        go_wp2_with (first | (go_at_call 44; refine (HRen.out _ HB.out).mono ?_; rintro e w2 ⟨rfl, hb⟩; have HB2 := Aside0.mk hb; clear hb) | (go_at_call 41; refine (HD.out _ HB2.out).mono ?_; rintro e w3 ⟨rfl, hb⟩; have HB3 := Aside0.mk ((HB.out.trans (HB2.out.mono HB.out.size)).trans (hb.mono (Nat.le_trans HB.out.size HB2.out.size))); clear hb))
        go_ret
        exact ⟨by rw [HKC.out]; rfl, HB3.out⟩
  · have hren : renD classL (bl s) (l.map pairT) = [] := by
      unfold renD
      rw [hq]
      exact if_neg h0
    rw [hren]
    obtain ⟨rfl, rfl, he⟩ := (split_err hq).resolve_left h0
    have HSp := Aside0.mk hSp
    clear hSp hq hC hM hren hL h8 hps32 ht32
    have hne : (e != 0) = true := by simp [h0]
    have heq : (e == 0) = false := by simp [h0]
    clear he h0
    go_enter Try.func46, Try.ntmps46
    go_wp2_with (go_at_call 42; refine HSp.out.mono ?_; rintro e w1 ⟨v, rfl, hrow, hb⟩; have HBx := Aside0.mk (below_alloc hb (.cells #[.int .i64 0, .string (lb [])] 54)); obtain ⟨A5, c5, rfl⟩ := Kd.R_slice hrow; clear hrow hb)
    go_ret
    exact ⟨rfl, HBx.out⟩
end Go.Proofs.Ytcbakmojhicahaa.Hand
end

section
namespace Go.Proofs.Ytcbakmojhicahaa.Hand
open Go.RowKit Go.Shelf Go.Proofs.YtcbakmojhicahaaW.PrintWords Go.Proofs.YtcbakmojhicahaaW.PrintLast Go.Proofs.YtcbakmojhicahaaW.PrintMore
set_option linter.unusedVariables false
set_option linter.unusedSimpArgs false

def kind_Renamed.f (s : ByteArray) (l : List (S78)) : Option ByteArray := if s.size ≤ 1048576 ∧ l.length ≤ 1048576 ∧ shortP l = true then some (lb (renD classL (bl s) (l.map pairT))) else none
theorem kind_Renamed.calls (a0 : ByteArray) (A1 : Option Addr) (c1 : Nat) (l1 : List (S78)) (r : ByteArray) (w : World) (hr1 : Kd.C k78 w A1 l1.length l1) (hc1 : l1.length ≤ c1) (hGMaxL : MaxL w) (h : kind_Renamed.f a0 l1 = some r) :
    Calls Try.prog 46 #[.string a0, .slice A1 l1.length c1] w fun e w' => e = .returned (.string r) ∧ Below w.heap.size w w' := by
  unfold kind_Renamed.f at h
  split at h
  · rename_i hs
    cases h
    exact kind_renamed a0 A1 c1 l1 w hGMaxL hs.1 hr1 hc1 hs.2.1 (shortP_mem hs.2.2)
  · cases h
end Go.Proofs.Ytcbakmojhicahaa.Hand
end

section
-- Written by this session's program layer.py (the kit's print, turned), not by hand.
namespace Go.Proofs.Ytcbakmojhicahaa.Q10
open Go.RowKit Go.Proofs.YtcbakmojhicahaaW.PrintWords Go.Proofs.YtcbakmojhicahaaW.PrintLast Go.Proofs.YtcbakmojhicahaaW.PrintMore Go.Proofs.Ytcbakmojhicahaa.Hand
attribute [local go_sem] max2_int min2_int max_two min_two max_three min_three max_four min_four   -- for this text's walks alone
set_option linter.unusedVariables false
set_option linter.unusedSimpArgs false



def errW : Option Int → Value
  | none => .nilIface
  | some c => .iface 0 (.int .i64 c)
theorem errW_none : errW none = .nilIface := rfl
theorem errW_some (c : Int) : errW (some c) = .iface 0 (.int .i64 c) := rfl

theorem info54 : (Try.prog.info? 54).map (fun i => (i.zero, i.size, i.bytes)) = some (some (.agg #[(.int .i64 0), (.string ⟨#[]⟩)]), 2, 24) := by kernel_rfl
theorem info78 : (Try.prog.info? 78).map (fun i => (i.zero, i.size, i.bytes)) = some (some (.agg #[(.string ⟨#[]⟩), (.string ⟨#[]⟩)]), 2, 32) := by kernel_rfl
-- the values' own types
end Go.Proofs.Ytcbakmojhicahaa.Q10
end

section
-- Written by this session's program layer.py (the kit's print, turned), not by hand.
namespace Go.Proofs.Ytcbakmojhicahaa.Q10
open Go.RowKit Go.Proofs.YtcbakmojhicahaaW.PrintWords Go.Proofs.YtcbakmojhicahaaW.PrintLast Go.Proofs.YtcbakmojhicahaaW.PrintMore Go.Proofs.Ytcbakmojhicahaa.Hand
attribute [local go_sem] max2_int min2_int max_two min_two max_three min_three max_four min_four   -- for this text's walks alone
set_option linter.unusedVariables false
set_option linter.unusedSimpArgs false

theorem eqA54 (d : Nat) (w : World) (x0 y0 : Int) (x1 y1 : ByteArray) :
    (Op.equalIn (d + 2) 54 (.agg #[.int .i64 x0, .string x1]) (.agg #[.int .i64 y0, .string y1])).run Try.prog w = .ok (x0 == y0 && (x1.toList == y1.toList)) w := by
  refine eqA_of Try.underlying54 (by kernel_rfl) ?_
  refine eqf_cons (by rfl) (by go_simp; rfl) (by go_simp; rfl) (by go_simp) ?_
  exact eqf_last (by rfl) (by go_simp; rfl) (by go_simp; rfl) (by go_simp)
end Go.Proofs.Ytcbakmojhicahaa.Q10
end

section
-- Written by this session's program layer.py (the kit's print, turned), not by hand.
namespace Go.Proofs.Ytcbakmojhicahaa.Q10
open Go.RowKit Go.Proofs.YtcbakmojhicahaaW.PrintWords Go.Proofs.YtcbakmojhicahaaW.PrintLast Go.Proofs.YtcbakmojhicahaaW.PrintMore Go.Proofs.Ytcbakmojhicahaa.Hand
attribute [local go_sem] max2_int min2_int max_two min_two max_three min_three max_four min_four   -- for this text's walks alone
set_option linter.unusedVariables false
set_option linter.unusedSimpArgs false

attribute [local go_sem high] eqA54
-- BY HAND: function 31 (kind_Parse)

/-! ### kind_IsRef: function 35 -/
def kind_IsRef.f (a0_0 : Int) (a0_1 : ByteArray) : Option (Bool) := if a0_0 = 3 then (some true) else (if a0_0 = 4 then (some true) else (if a0_0 = 5 then (some true) else (some false)))
set_option maxHeartbeats 8000000 in
set_option maxRecDepth 100000 in
theorem kind_IsRef.calls (a0_0 : Int) (a0_1 : ByteArray) (r : Bool) (w : World) (h : kind_IsRef.f a0_0 a0_1 = some r) :
    Calls Try.prog 35 #[.agg #[.int .i64 a0_0, .string a0_1]] w fun e w' => e = .returned (.bool r) ∧ Below w.heap.size w w' := by
  have hu54 := Try.underlying54
  have HB := Aside0.mk (Below.refl w.heap.size w)
  have H : (if a0_0 = 3 then (some true) else (if a0_0 = 4 then (some true) else (if a0_0 = 5 then (some true) else (some false)))) = some r := h
  clear h
  by_cases c2 : a0_0 = 3
  · rw [if_pos c2] at H
    have c2b0 : (a0_0 == 3) = true := beq_iff_eq.mpr c2
    have c2b1 : (a0_0 != 3) = false := bne_eq_false_iff_eq.mpr c2
    clear c2
    obtain rfl := Option.some.inj H
    go_enter Try.func35, Try.ntmps35
    go_wp2_with (first | ((with_reducible refine gate_dst (N := 1) rfl ?_); refine box_event ?hg (N := 1) ?hd (cs := #[.int .i64 a0_0, .string a0_1]) (t := 54) ?hr ?_; (case hd => rfl); (case hg => rfl); (case hr => first | (go_simp; done) | (go_simp; rfl)); intro gb101 hg w3 hbox hb; have n0_ := Aside0.mk (below_step (by repeat (first | (with_reducible first | exact HB.out | apply below_alloc | apply pw_below_drewN | apply below_drew1) | exact HB.out)) hb); have n1_ := Aside0.mk (hbox); have n2_ := Aside0.mk ((by rw [hg]; exact (below_size (by repeat (first | (with_reducible first | exact HB.out | apply below_alloc | apply pw_below_drewN | apply below_drew1) | exact HB.out))) : w.heap.size ≤ gb101)); have n3_ := Aside0.mk ((by rw [hg]; exact (below_size (by repeat (first | (with_reducible first | exact HB.out | apply below_alloc | apply pw_below_drewN | apply below_drew1) | exact HB.out))) : w.heap.size ≤ gb101)); clear HB; have HB := n0_; have BK101 := n1_; have GW101 := n2_; have GE101 := n3_; clear n0_ n1_ n2_ n3_; clear hb hbox hg; have hcz4_0 : w3.cell? ⟨gb101, 0, none⟩ = some (.int .i64 a0_0) := (blk_cell BK101.out 0).trans rfl; have hcz4_1 : w3.cell? ⟨gb101, 1, none⟩ = some (.string a0_1) := (blk_cell BK101.out 1).trans rfl; have hfz4_0 := blk_frozen BK101.out 0; have hfz4_1 := blk_frozen BK101.out 1))
    go_ret
    exact ⟨by first | rfl | (simp [errW_none, errW_some] <;> rfl) | (simp [*, errW_none, errW_some] <;> rfl), by repeat (first | (with_reducible first | exact HB.out | apply below_alloc | apply pw_below_drewN | apply below_drew1 | refine below_set ?_ GE101.out) | exact HB.out)⟩
  · rw [if_neg c2] at H
    have c2b0 : (a0_0 == 3) = false := beq_eq_false_iff_ne.mpr c2
    have c2b1 : (a0_0 != 3) = true := bne_iff_ne.mpr c2
    by_cases c5 : a0_0 = 4
    · rw [if_pos c5] at H
      have c5b0 : (a0_0 == 4) = true := beq_iff_eq.mpr c5
      have c5b1 : (a0_0 != 4) = false := bne_eq_false_iff_eq.mpr c5
      clear c5
      obtain rfl := Option.some.inj H
      go_enter Try.func35, Try.ntmps35
      go_wp2_with (first | ((with_reducible refine gate_dst (N := 1) rfl ?_); refine box_event ?hg (N := 1) ?hd (cs := #[.int .i64 a0_0, .string a0_1]) (t := 54) ?hr ?_; (case hd => rfl); (case hg => rfl); (case hr => first | (go_simp; done) | (go_simp; rfl)); intro gb101 hg w6 hbox hb; have n0_ := Aside0.mk (below_step (by repeat (first | (with_reducible first | exact HB.out | apply below_alloc | apply pw_below_drewN | apply below_drew1) | exact HB.out)) hb); have n1_ := Aside0.mk (hbox); have n2_ := Aside0.mk ((by rw [hg]; exact (below_size (by repeat (first | (with_reducible first | exact HB.out | apply below_alloc | apply pw_below_drewN | apply below_drew1) | exact HB.out))) : w.heap.size ≤ gb101)); have n3_ := Aside0.mk ((by rw [hg]; exact (below_size (by repeat (first | (with_reducible first | exact HB.out | apply below_alloc | apply pw_below_drewN | apply below_drew1) | exact HB.out))) : w.heap.size ≤ gb101)); clear HB; have HB := n0_; have BK101 := n1_; have GW101 := n2_; have GE101 := n3_; clear n0_ n1_ n2_ n3_; clear hb hbox hg; have hcz7_0 : w6.cell? ⟨gb101, 0, none⟩ = some (.int .i64 a0_0) := (blk_cell BK101.out 0).trans rfl; have hcz7_1 : w6.cell? ⟨gb101, 1, none⟩ = some (.string a0_1) := (blk_cell BK101.out 1).trans rfl; have hfz7_0 := blk_frozen BK101.out 0; have hfz7_1 := blk_frozen BK101.out 1))
      go_ret
      exact ⟨by first | rfl | (simp [errW_none, errW_some] <;> rfl) | (simp [*, errW_none, errW_some] <;> rfl), by repeat (first | (with_reducible first | exact HB.out | apply below_alloc | apply pw_below_drewN | apply below_drew1 | refine below_set ?_ GE101.out) | exact HB.out)⟩
    · rw [if_neg c5] at H
      have c5b0 : (a0_0 == 4) = false := beq_eq_false_iff_ne.mpr c5
      have c5b1 : (a0_0 != 4) = true := bne_iff_ne.mpr c5
      by_cases c8 : a0_0 = 5
      · rw [if_pos c8] at H
        have c8b0 : (a0_0 == 5) = true := beq_iff_eq.mpr c8
        have c8b1 : (a0_0 != 5) = false := bne_eq_false_iff_eq.mpr c8
        clear c8
        obtain rfl := Option.some.inj H
        go_enter Try.func35, Try.ntmps35
        go_wp2_with (first | ((with_reducible refine gate_dst (N := 1) rfl ?_); refine box_event ?hg (N := 1) ?hd (cs := #[.int .i64 a0_0, .string a0_1]) (t := 54) ?hr ?_; (case hd => rfl); (case hg => rfl); (case hr => first | (go_simp; done) | (go_simp; rfl)); intro gb101 hg w9 hbox hb; have n0_ := Aside0.mk (below_step (by repeat (first | (with_reducible first | exact HB.out | apply below_alloc | apply pw_below_drewN | apply below_drew1) | exact HB.out)) hb); have n1_ := Aside0.mk (hbox); have n2_ := Aside0.mk ((by rw [hg]; exact (below_size (by repeat (first | (with_reducible first | exact HB.out | apply below_alloc | apply pw_below_drewN | apply below_drew1) | exact HB.out))) : w.heap.size ≤ gb101)); have n3_ := Aside0.mk ((by rw [hg]; exact (below_size (by repeat (first | (with_reducible first | exact HB.out | apply below_alloc | apply pw_below_drewN | apply below_drew1) | exact HB.out))) : w.heap.size ≤ gb101)); clear HB; have HB := n0_; have BK101 := n1_; have GW101 := n2_; have GE101 := n3_; clear n0_ n1_ n2_ n3_; clear hb hbox hg; have hcz10_0 : w9.cell? ⟨gb101, 0, none⟩ = some (.int .i64 a0_0) := (blk_cell BK101.out 0).trans rfl; have hcz10_1 : w9.cell? ⟨gb101, 1, none⟩ = some (.string a0_1) := (blk_cell BK101.out 1).trans rfl; have hfz10_0 := blk_frozen BK101.out 0; have hfz10_1 := blk_frozen BK101.out 1))
        go_ret
        exact ⟨by first | rfl | (simp [errW_none, errW_some] <;> rfl) | (simp [*, errW_none, errW_some] <;> rfl), by repeat (first | (with_reducible first | exact HB.out | apply below_alloc | apply pw_below_drewN | apply below_drew1 | refine below_set ?_ GE101.out) | exact HB.out)⟩
      · rw [if_neg c8] at H
        have c8b0 : (a0_0 == 5) = false := beq_eq_false_iff_ne.mpr c8
        have c8b1 : (a0_0 != 5) = true := bne_iff_ne.mpr c8
        obtain rfl := Option.some.inj H
        go_enter Try.func35, Try.ntmps35
        go_wp2_with (first | ((with_reducible refine gate_dst (N := 1) rfl ?_); refine box_event ?hg (N := 1) ?hd (cs := #[.int .i64 a0_0, .string a0_1]) (t := 54) ?hr ?_; (case hd => rfl); (case hg => rfl); (case hr => first | (go_simp; done) | (go_simp; rfl)); intro gb101 hg w11 hbox hb; have n0_ := Aside0.mk (below_step (by repeat (first | (with_reducible first | exact HB.out | apply below_alloc | apply pw_below_drewN | apply below_drew1) | exact HB.out)) hb); have n1_ := Aside0.mk (hbox); have n2_ := Aside0.mk ((by rw [hg]; exact (below_size (by repeat (first | (with_reducible first | exact HB.out | apply below_alloc | apply pw_below_drewN | apply below_drew1) | exact HB.out))) : w.heap.size ≤ gb101)); have n3_ := Aside0.mk ((by rw [hg]; exact (below_size (by repeat (first | (with_reducible first | exact HB.out | apply below_alloc | apply pw_below_drewN | apply below_drew1) | exact HB.out))) : w.heap.size ≤ gb101)); clear HB; have HB := n0_; have BK101 := n1_; have GW101 := n2_; have GE101 := n3_; clear n0_ n1_ n2_ n3_; clear hb hbox hg; have hcz12_0 : w11.cell? ⟨gb101, 0, none⟩ = some (.int .i64 a0_0) := (blk_cell BK101.out 0).trans rfl; have hcz12_1 : w11.cell? ⟨gb101, 1, none⟩ = some (.string a0_1) := (blk_cell BK101.out 1).trans rfl; have hfz12_0 := blk_frozen BK101.out 0; have hfz12_1 := blk_frozen BK101.out 1))
        go_ret
        exact ⟨by first | rfl | (simp [errW_none, errW_some] <;> rfl) | (simp [*, errW_none, errW_some] <;> rfl), by repeat (first | (with_reducible first | exact HB.out | apply below_alloc | apply pw_below_drewN | apply below_drew1 | refine below_set ?_ GE101.out) | exact HB.out)⟩

-- BY HAND: function 41 (kind_Desc)

-- BY HAND: function 42 (kind_Split)

-- BY HAND: function 46 (kind_Renamed)

/-! ### secateurlaw06_live: function 30 -/
def secateurlaw06_live.f  : Option (Bool) := (kind_Split.f (⟨#[40, 73, 91, 76, 97, 47, 66, 59, 41, 86]⟩ : ByteArray)).bind fun bt102 => ((kind_Parse.f (⟨#[91, 86]⟩ : ByteArray)).bind fun bt109 => ((kind_Desc.f 4 (⟨#[]⟩ : ByteArray) (([(⟨2, (⟨#[]⟩ : ByteArray)⟩ : S54)] : List (S54)))).bind fun bt116 => (if (bt102.1.length : Int) = 2 then (if 1 < (bt102.1.length : Int) then (if (((rd_T54 bt102.1 1).f0) == 5 && ((((rd_T54 bt102.1 1).f1).toList) == ([97, 47, 66] : List UInt8))) = true then (if bt102.2.1 = 1 then (if bt102.2.2.2 = 0 then (if bt109.2.2 = 1 then (if bt116.1.toList = ([40, 73, 41, 91, 73] : List UInt8) then (if bt116.2 = 0 then ((kind_Renamed.f (⟨#[40, 76, 65, 59, 41, 73]⟩ : ByteArray) (([(⟨(⟨#[65]⟩ : ByteArray), (⟨#[99]⟩ : ByteArray)⟩ : S78)] : List (S78)))).bind fun t122 => (if t122.toList = ([40, 76, 99, 59, 41, 73] : List UInt8) then ((kind_IsRef.f ((rd_T54 bt102.1 1).f0) ((rd_T54 bt102.1 1).f1)).bind fun t124 => (some t124)) else (some false))) else (some false)) else (some false)) else (some false)) else (some false)) else (some false)) else (some false)) else (none)) else (some false))))
set_option maxHeartbeats 8000000 in
set_option maxRecDepth 100000 in
theorem secateurlaw06_live.calls  (r : Bool) (w : World) (hGMaxL : MaxL w) (h : secateurlaw06_live.f  = some r) (hr : r = true) :
    Calls Try.prog 30 #[] w fun e w' => e = .returned (.bool r) ∧ Below w.heap.size w w' := by
  have hu54 := Try.underlying54
  have hu78 := Try.underlying78
  have HGMaxL := Aside0.mk hGMaxL
  clear hGMaxL
  have HRT := Aside0.mk hr
  clear hr
  have HB := Aside0.mk (Below.refl w.heap.size w)
  have H : ((kind_Split.f (⟨#[40, 73, 91, 76, 97, 47, 66, 59, 41, 86]⟩ : ByteArray)).bind fun bt102 => ((kind_Parse.f (⟨#[91, 86]⟩ : ByteArray)).bind fun bt109 => ((kind_Desc.f 4 (⟨#[]⟩ : ByteArray) (([(⟨2, (⟨#[]⟩ : ByteArray)⟩ : S54)] : List (S54)))).bind fun bt116 => (if (bt102.1.length : Int) = 2 then (if 1 < (bt102.1.length : Int) then (if (((rd_T54 bt102.1 1).f0) == 5 && ((((rd_T54 bt102.1 1).f1).toList) == ([97, 47, 66] : List UInt8))) = true then (if bt102.2.1 = 1 then (if bt102.2.2.2 = 0 then (if bt109.2.2 = 1 then (if bt116.1.toList = ([40, 73, 41, 91, 73] : List UInt8) then (if bt116.2 = 0 then ((kind_Renamed.f (⟨#[40, 76, 65, 59, 41, 73]⟩ : ByteArray) (([(⟨(⟨#[65]⟩ : ByteArray), (⟨#[99]⟩ : ByteArray)⟩ : S78)] : List (S78)))).bind fun t122 => (if t122.toList = ([40, 76, 99, 59, 41, 73] : List UInt8) then ((kind_IsRef.f ((rd_T54 bt102.1 1).f0) ((rd_T54 bt102.1 1).f1)).bind fun t124 => (some t124)) else (some false))) else (some false)) else (some false)) else (some false)) else (some false)) else (some false)) else (some false)) else (none)) else (some false))))) = some r := h
  clear h
  replace H := Option.bind_eq_some_iff.mp H
  obtain ⟨⟨t102, t105, t106, t107⟩, A10, H⟩ := H
  replace H : ((kind_Parse.f (⟨#[91, 86]⟩ : ByteArray)).bind fun bt109 => ((kind_Desc.f 4 (⟨#[]⟩ : ByteArray) (([(⟨2, (⟨#[]⟩ : ByteArray)⟩ : S54)] : List (S54)))).bind fun bt116 => (if (t102.length : Int) = 2 then (if 1 < (t102.length : Int) then (if (((rd_T54 t102 1).f0) == 5 && ((((rd_T54 t102 1).f1).toList) == ([97, 47, 66] : List UInt8))) = true then (if t105 = 1 then (if t107 = 0 then (if bt109.2.2 = 1 then (if bt116.1.toList = ([40, 73, 41, 91, 73] : List UInt8) then (if bt116.2 = 0 then ((kind_Renamed.f (⟨#[40, 76, 65, 59, 41, 73]⟩ : ByteArray) (([(⟨(⟨#[65]⟩ : ByteArray), (⟨#[99]⟩ : ByteArray)⟩ : S78)] : List (S78)))).bind fun t122 => (if t122.toList = ([40, 76, 99, 59, 41, 73] : List UInt8) then ((kind_IsRef.f ((rd_T54 t102 1).f0) ((rd_T54 t102 1).f1)).bind fun t124 => (some t124)) else (some false))) else (some false)) else (some false)) else (some false)) else (some false)) else (some false)) else (some false)) else (none)) else (some false)))) = some r := H
  have A1 := Aside0.mk A10
  clear A10
  replace H := Option.bind_eq_some_iff.mp H
  obtain ⟨⟨t109, t110, t111⟩, A20, H⟩ := H
  replace H : ((kind_Desc.f 4 (⟨#[]⟩ : ByteArray) (([(⟨2, (⟨#[]⟩ : ByteArray)⟩ : S54)] : List (S54)))).bind fun bt116 => (if (t102.length : Int) = 2 then (if 1 < (t102.length : Int) then (if (((rd_T54 t102 1).f0) == 5 && ((((rd_T54 t102 1).f1).toList) == ([97, 47, 66] : List UInt8))) = true then (if t105 = 1 then (if t107 = 0 then (if t111 = 1 then (if bt116.1.toList = ([40, 73, 41, 91, 73] : List UInt8) then (if bt116.2 = 0 then ((kind_Renamed.f (⟨#[40, 76, 65, 59, 41, 73]⟩ : ByteArray) (([(⟨(⟨#[65]⟩ : ByteArray), (⟨#[99]⟩ : ByteArray)⟩ : S78)] : List (S78)))).bind fun t122 => (if t122.toList = ([40, 76, 99, 59, 41, 73] : List UInt8) then ((kind_IsRef.f ((rd_T54 t102 1).f0) ((rd_T54 t102 1).f1)).bind fun t124 => (some t124)) else (some false))) else (some false)) else (some false)) else (some false)) else (some false)) else (some false)) else (some false)) else (none)) else (some false))) = some r := H
  have A2 := Aside0.mk A20
  clear A20
  obtain ⟨y113, hy113⟩ : ∃ y_ : List (S54), y_ = (([(⟨2, (⟨#[]⟩ : ByteArray)⟩ : S54)] : List (S54))) := ⟨_, rfl⟩
  replace H : ((kind_Desc.f 4 (⟨#[]⟩ : ByteArray) y113).bind fun bt116 => (if (t102.length : Int) = 2 then (if 1 < (t102.length : Int) then (if (((rd_T54 t102 1).f0) == 5 && ((((rd_T54 t102 1).f1).toList) == ([97, 47, 66] : List UInt8))) = true then (if t105 = 1 then (if t107 = 0 then (if t111 = 1 then (if bt116.1.toList = ([40, 73, 41, 91, 73] : List UInt8) then (if bt116.2 = 0 then ((kind_Renamed.f (⟨#[40, 76, 65, 59, 41, 73]⟩ : ByteArray) (([(⟨(⟨#[65]⟩ : ByteArray), (⟨#[99]⟩ : ByteArray)⟩ : S78)] : List (S78)))).bind fun t122 => (if t122.toList = ([40, 76, 99, 59, 41, 73] : List UInt8) then ((kind_IsRef.f ((rd_T54 t102 1).f0) ((rd_T54 t102 1).f1)).bind fun t124 => (some t124)) else (some false))) else (some false)) else (some false)) else (some false)) else (some false)) else (some false)) else (some false)) else (none)) else (some false))) = some r := by first | (rw [hy113]; with_reducible exact H) | (have H2_ := (Option.bind_some _ _).symm.trans H; rw [hy113]; with_reducible exact H2_) | (have H2_ := (Option.bind_some _ _).symm.trans H; with_reducible exact H2_) | with_reducible exact H | (rw [hy113]; exact H) | exact H
  have Ny113 := Aside0.mk hy113
  clear hy113
  replace H := Option.bind_eq_some_iff.mp H
  obtain ⟨⟨t116, t117⟩, A30, H⟩ := H
  replace H : (if (t102.length : Int) = 2 then (if 1 < (t102.length : Int) then (if (((rd_T54 t102 1).f0) == 5 && ((((rd_T54 t102 1).f1).toList) == ([97, 47, 66] : List UInt8))) = true then (if t105 = 1 then (if t107 = 0 then (if t111 = 1 then (if t116.toList = ([40, 73, 41, 91, 73] : List UInt8) then (if t117 = 0 then ((kind_Renamed.f (⟨#[40, 76, 65, 59, 41, 73]⟩ : ByteArray) (([(⟨(⟨#[65]⟩ : ByteArray), (⟨#[99]⟩ : ByteArray)⟩ : S78)] : List (S78)))).bind fun t122 => (if t122.toList = ([40, 76, 99, 59, 41, 73] : List UInt8) then ((kind_IsRef.f ((rd_T54 t102 1).f0) ((rd_T54 t102 1).f1)).bind fun t124 => (some t124)) else (some false))) else (some false)) else (some false)) else (some false)) else (some false)) else (some false)) else (some false)) else (none)) else (some false)) = some r := H
  have A3 := Aside0.mk A30
  clear A30
  by_cases c4 : (t102.length : Int) = 2
  · rw [if_pos c4] at H
    have c4b0 : ((t102.length : Int) == 2) = true := beq_iff_eq.mpr c4
    have c4b1 : ((t102.length : Int) != 2) = false := bne_eq_false_iff_eq.mpr c4
    clear c4
    by_cases c5 : 1 < (t102.length : Int)
    · rw [if_pos c5] at H
      have c5b0 : decide (1 < (t102.length : Int)) = true := decide_eq_true c5
      have c5b1 : decide (1 < t102.length) = true := decide_eq_true (by omega)
      clear c5
      by_cases c6 : (((rd_T54 t102 1).f0) == 5 && ((((rd_T54 t102 1).f1).toList) == ([97, 47, 66] : List UInt8))) = true
      · rw [if_pos c6] at H
        have c6b0 : (((rd_T54 t102 1).f0) == 5 && ((((rd_T54 t102 1).f1).toList) == ([97, 47, 66] : List UInt8))) = true := c6
        (try (have c6b1 : decide (((rd_T54 t102 1).f0) = 5 && ((((rd_T54 t102 1).f1).toList) == ([97, 47, 66] : List UInt8))) = true := by simpa using c6))
        (try (have c6b2 : (((rd_T54 t102 1).f0) == 5 && ((((rd_T54 t102 1).f1).toList) == ([97, 47, 66] : List UInt8))) = true := by simpa using c6))
        clear c6
        by_cases c7 : t105 = 1
        · rw [if_pos c7] at H
          have c7b0 : (t105 == 1) = true := beq_iff_eq.mpr c7
          have c7b1 : (t105 != 1) = false := bne_eq_false_iff_eq.mpr c7
          clear c7
          by_cases c8 : t107 = 0
          · rw [if_pos c8] at H
            have c8b0 : (t107 == 0) = true := beq_iff_eq.mpr c8
            have c8b1 : (t107 != 0) = false := bne_eq_false_iff_eq.mpr c8
            clear c8
            by_cases c9 : t111 = 1
            · rw [if_pos c9] at H
              have c9b0 : (t111 == 1) = true := beq_iff_eq.mpr c9
              have c9b1 : (t111 != 1) = false := bne_eq_false_iff_eq.mpr c9
              clear c9
              by_cases c10 : t116.toList = ([40, 73, 41, 91, 73] : List UInt8)
              · rw [if_pos c10] at H
                have c10b0 : (t116.toList == ([40, 73, 41, 91, 73] : List UInt8)) = true := beq_iff_eq.mpr c10
                have c10b1 : (t116.toList != ([40, 73, 41, 91, 73] : List UInt8)) = false := bne_eq_false_iff_eq.mpr c10
                clear c10
                by_cases c11 : t117 = 0
                · rw [if_pos c11] at H
                  have c11b0 : (t117 == 0) = true := beq_iff_eq.mpr c11
                  have c11b1 : (t117 != 0) = false := bne_eq_false_iff_eq.mpr c11
                  clear c11
                  obtain ⟨y119, hy119⟩ : ∃ y_ : List (S78), y_ = (([(⟨(⟨#[65]⟩ : ByteArray), (⟨#[99]⟩ : ByteArray)⟩ : S78)] : List (S78))) := ⟨_, rfl⟩
                  replace H : ((kind_Renamed.f (⟨#[40, 76, 65, 59, 41, 73]⟩ : ByteArray) y119).bind fun t122 => (if t122.toList = ([40, 76, 99, 59, 41, 73] : List UInt8) then ((kind_IsRef.f ((rd_T54 t102 1).f0) ((rd_T54 t102 1).f1)).bind fun t124 => (some t124)) else (some false))) = some r := by first | (rw [hy119]; with_reducible exact H) | (have H2_ := (Option.bind_some _ _).symm.trans H; rw [hy119]; with_reducible exact H2_) | (have H2_ := (Option.bind_some _ _).symm.trans H; with_reducible exact H2_) | with_reducible exact H | (rw [hy119]; exact H) | exact H
                  have Ny119 := Aside0.mk hy119
                  clear hy119
                  replace H := Option.bind_eq_some_iff.mp H
                  obtain ⟨t122, A120, H⟩ := H
                  replace H : (if t122.toList = ([40, 76, 99, 59, 41, 73] : List UInt8) then ((kind_IsRef.f ((rd_T54 t102 1).f0) ((rd_T54 t102 1).f1)).bind fun t124 => (some t124)) else (some false)) = some r := H
                  have A12 := Aside0.mk A120
                  clear A120
                  by_cases c13 : t122.toList = ([40, 76, 99, 59, 41, 73] : List UInt8)
                  · rw [if_pos c13] at H
                    have c13b0 : (t122.toList == ([40, 76, 99, 59, 41, 73] : List UInt8)) = true := beq_iff_eq.mpr c13
                    have c13b1 : (t122.toList != ([40, 76, 99, 59, 41, 73] : List UInt8)) = false := bne_eq_false_iff_eq.mpr c13
                    clear c13
                    replace H := Option.bind_eq_some_iff.mp H
                    obtain ⟨t124, A140, H⟩ := H
                    replace H : (some t124) = some r := H
                    have A14 := Aside0.mk A140
                    clear A140
                    obtain rfl := Option.some.inj H
                    go_enter Try.func30, Try.ntmps30
                    go_wp2_with (first | ((with_reducible refine gate_callee (f := 42) rfl ?_); refine goesL_ (some 9) rfl rfl Try.func42 (by kernel_rfl) rfl #[.string (⟨#[40, 73, 91, 76, 97, 47, 66, 59, 41, 86]⟩ : ByteArray)] rfl (by (try simp only [List.map_toArray, List.map_cons, List.map_nil]); first | done | rfl | (simp only [List.length_drop, List.length_take]; rfl)) ?_; (with_reducible refine (kind_Split.calls (⟨#[40, 73, 91, 76, 97, 47, 66, 59, 41, 86]⟩ : ByteArray) t102 t105 t106 t107 _ ?side1 A1.out).mono ?_); (case side1 => exact MaxL.below HGMaxL.out (by repeat (first | (with_reducible first | exact HB.out | apply below_alloc | apply pw_below_drewN | apply below_drew1) | exact HB.out))); rintro e w15 ⟨v103, rfl, ho0, hb⟩; refine ⟨_, rfl, ?_⟩; have n0_ := Aside0.mk (Kd.R_lower ho0 (below_size (by repeat (first | (with_reducible first | exact HB.out | apply below_alloc | apply pw_below_drewN | apply below_drew1) | exact HB.out)))); have n1_ := Aside0.mk (below_step (by repeat (first | (with_reducible first | exact HB.out | apply below_alloc | apply pw_below_drewN | apply below_drew1) | exact HB.out)) hb); clear HB; have HO104 := n0_; have HB := n1_; clear n0_ n1_; (try clear hb); (try clear hb2); (try clear hk); (try clear hi); (try clear ho0)) | ((with_reducible refine gate_dst (N := 2) rfl ?_); (try (refine gate_guard (by rfl) ?_; dsimp only)); refine box_event ?hg (N := 2) ?hd (cs := #[.int .i64 0, .string (⟨#[]⟩ : ByteArray)]) (t := 54) ?hr ?_; (case hd => rfl); (case hg => rfl); (case hr => first | (go_simp; done) | (go_simp; rfl)); intro gb108 hg w16 hbox hb; have n0_ := Aside0.mk (Kd.R_below (Kd.R_elderB (by (with_reducible repeat (first | apply Kd.R_alloc | apply Kd.R_drewN | apply Kd.R_drew)); exact HO104.out) gb108 (Nat.le_of_eq hg.symm)) hb); have n1_ := Aside0.mk (below_step (by repeat (first | (with_reducible first | exact HB.out | apply below_alloc | apply pw_below_drewN | apply below_drew1) | exact HB.out)) hb); have n2_ := Aside0.mk (hbox); have n3_ := Aside0.mk ((by rw [hg]; exact (below_size (by repeat (first | (with_reducible first | exact HB.out | apply below_alloc | apply pw_below_drewN | apply below_drew1) | exact HB.out))) : w.heap.size ≤ gb108)); have n4_ := Aside0.mk ((by rw [hg]; exact (below_size (by repeat (first | (with_reducible first | exact HB.out | apply below_alloc | apply pw_below_drewN | apply below_drew1) | exact HB.out))) : w.heap.size ≤ gb108)); clear HO104; clear HB; have HO104 := n0_; have HB := n1_; have BK108 := n2_; have GW108 := n3_; have GE108 := n4_; clear n0_ n1_ n2_ n3_ n4_; clear hb hbox hg; have hcz17_0 : w16.cell? ⟨gb108, 0, none⟩ = some (.int .i64 0) := (blk_cell BK108.out 0).trans rfl; have hcz17_1 : w16.cell? ⟨gb108, 1, none⟩ = some (.string (⟨#[]⟩ : ByteArray)) := (blk_cell BK108.out 1).trans rfl; have hfz17_0 := blk_frozen BK108.out 0; have hfz17_1 := blk_frozen BK108.out 1) | ((with_reducible refine gate_callee (f := 31) rfl ?_); refine goesL_ (some 14) rfl rfl Try.func31 (by kernel_rfl) rfl #[.string (⟨#[91, 86]⟩ : ByteArray)] rfl (by (try simp only [List.map_toArray, List.map_cons, List.map_nil]); first | done | rfl | (simp only [List.length_drop, List.length_take]; rfl)) ?_; (with_reducible refine (kind_Parse.calls (⟨#[91, 86]⟩ : ByteArray) t109 t110 t111 _ ?side1 A2.out).mono ?_); (case side1 => exact MaxL.below HGMaxL.out (by repeat (first | (with_reducible first | exact HB.out | apply below_alloc | apply pw_below_drewN | apply below_drew1 | refine below_set ?_ GE108.out) | exact HB.out))); rintro e w18 ⟨rfl, hb⟩; refine ⟨_, rfl, ?_⟩; have n0_ := Aside0.mk (Kd.R_below (by (with_reducible repeat (first | apply Kd.R_alloc | apply Kd.R_drewN | apply Kd.R_drew)); exact (Kd.R_mono (Kd.R_far (p := ⟨gb108, 1, none⟩) (Kd.R_far (p := ⟨gb108, 0, none⟩) (Kd.R_mono HO104.out (fun k_ hk => (⟨hk, hk.2⟩ : _ ∧ k_ ≠ gb108))) (fun _ hk => hk.2) (.int .i64 t105)) (fun _ hk => hk.2) (.string t106)) (fun _ h_ => h_.1))) hb); have n1_ := Aside0.mk (blk_below (g := gb108) (o := .cells #[.int .i64 t105, .string t106] 54 (0, 0)) (by (with_reducible repeat (first | refine blk_drewN ?_ _ | refine blk_drew ?_ | refine blk_alloc ?_ _)); refine blk_put (cs := #[.int .i64 t105, .string (⟨#[]⟩ : ByteArray)]) ?_ 1 _ rfl; (with_reducible repeat (first | refine blk_drewN ?_ _ | refine blk_drew ?_ | refine blk_alloc ?_ _)); refine blk_put (cs := #[.int .i64 0, .string (⟨#[]⟩ : ByteArray)]) ?_ 0 _ rfl; (with_reducible repeat (first | refine blk_drewN ?_ _ | refine blk_drew ?_ | refine blk_alloc ?_ _)); exact BK108.out) hb); have n2_ := Aside0.mk (below_step (by repeat (first | (with_reducible first | exact HB.out | apply below_alloc | apply pw_below_drewN | apply below_drew1 | refine below_set ?_ GE108.out) | exact HB.out)) hb); clear HO104; clear BK108; clear HB; have HO104 := n0_; have BK108 := n1_; have HB := n2_; clear n0_ n1_ n2_; (try clear hb); (try clear hb2); (try clear hk); (try clear hi)) | ((with_reducible refine gate_dst (N := 4) rfl ?_); (try (refine gate_guard (by rfl) ?_; dsimp only)); refine box_event ?hg (N := 4) ?hd (cs := #[.int .i64 0, .string (⟨#[]⟩ : ByteArray)]) (t := 54) ?hr ?_; (case hd => rfl); (case hg => rfl); (case hr => first | (go_simp; done) | (go_simp; rfl)); intro gb112 hg w19 hbox hb; have n0_ := Aside0.mk (Kd.R_below (Kd.R_elderB (by (with_reducible repeat (first | apply Kd.R_alloc | apply Kd.R_drewN | apply Kd.R_drew)); exact HO104.out) gb112 (Nat.le_of_eq hg.symm)) hb); have n1_ := Aside0.mk (blk_below (g := gb108) (o := .cells #[.int .i64 t105, .string t106] 54 (0, 0)) (by (with_reducible repeat (first | refine blk_drewN ?_ _ | refine blk_drew ?_ | refine blk_alloc ?_ _)); exact BK108.out) hb); have n2_ := Aside0.mk (below_step (by repeat (first | (with_reducible first | exact HB.out | apply below_alloc | apply pw_below_drewN | apply below_drew1 | refine below_set ?_ GE108.out) | exact HB.out)) hb); have n3_ := Aside0.mk (hbox); have n4_ := Aside0.mk ((by rw [hg]; exact (below_size (by repeat (first | (with_reducible first | exact HB.out | apply below_alloc | apply pw_below_drewN | apply below_drew1 | refine below_set ?_ GE108.out) | exact HB.out))) : w.heap.size ≤ gb112)); have n5_ := Aside0.mk ((by rw [hg]; exact (below_size (by repeat (first | (with_reducible first | exact HB.out | apply below_alloc | apply pw_below_drewN | apply below_drew1 | refine below_set ?_ GE108.out) | exact HB.out))) : w.heap.size ≤ gb112)); have n6_ := Aside0.mk ((by rw [hg]; exact Nat.ne_of_lt (blk_lt (g := gb108) (o := .cells #[.int .i64 t105, .string t106] 54 (0, 0)) (by (with_reducible repeat (first | refine blk_drewN ?_ _ | refine blk_drew ?_ | refine blk_alloc ?_ _)); exact BK108.out)) : gb108 ≠ gb112)); have n7_ := Aside0.mk ((by rw [hg]; exact Nat.ne_of_gt (blk_lt (g := gb108) (o := .cells #[.int .i64 t105, .string t106] 54 (0, 0)) (by (with_reducible repeat (first | refine blk_drewN ?_ _ | refine blk_drew ?_ | refine blk_alloc ?_ _)); exact BK108.out)) : gb112 ≠ gb108)); clear HO104; clear BK108; clear HB; have HO104 := n0_; have BK108 := n1_; have HB := n2_; have BK112 := n3_; have GW112 := n4_; have GE112 := n5_; have NB108_112 := n6_; have NB112_108 := n7_; clear n0_ n1_ n2_ n3_ n4_ n5_ n6_ n7_; clear hb hbox hg; have hnb20 := NB112_108.out; have hnc20 := NB108_112.out; have hcz21_0 : w19.cell? ⟨gb112, 0, none⟩ = some (.int .i64 0) := (blk_cell BK112.out 0).trans rfl; have hcz21_1 : w19.cell? ⟨gb112, 1, none⟩ = some (.string (⟨#[]⟩ : ByteArray)) := (blk_cell BK112.out 1).trans rfl; have hfz21_0 := blk_frozen BK112.out 0; have hfz21_1 := blk_frozen BK112.out 1) | ((with_reducible refine gate_dst (N := 20) rfl ?_); (try (refine gate_guard (by rfl) ?_; dsimp only)); refine Kd.R_lit k54 _ 54 ?hg (N := 20) ?hd (xs := ([(⟨2, (⟨#[]⟩ : ByteArray)⟩ : S54)] : List (S54))) (inner := [.int .i64 2, .string (⟨#[]⟩ : ByteArray)]) (ok := fun _ => True) (okp := fun _ => True) ?hr ?hp (fun _ hk => hk) trivial (Below.refl _ _) (Nat.le_refl _) (by simp) ?_; (case hd => rfl); (case hg => rfl); (case hr => first | (go_simp; done) | (go_simp; rfl)); (case hp => exact (Reps.c2 (show Kd.M k54 _ _ _ (⟨2, (⟨#[]⟩ : ByteArray)⟩ : S54) [.int .i64 2, .string (⟨#[]⟩ : ByteArray)] from (k54_mkM _ _ _ (⟨2, (⟨#[]⟩ : ByteArray)⟩ : S54) )) (Reps.none _ _))); intro v114 w22 ho23 hb hg_ hnew_; clear hg_ hnew_; (first | rw [← Ny113.out] at ho23 | (simp only [Int.reduceToNat] at ho23; rw [← Ny113.out] at ho23)); have n0_ := Aside0.mk (Kd.R_elder' (by (with_reducible repeat (first | apply Kd.R_alloc | apply Kd.R_drewN | apply Kd.R_drew)); exact (Kd.R_mono (Kd.R_far (p := ⟨gb112, 1, none⟩) (Kd.R_far (p := ⟨gb112, 0, none⟩) (Kd.R_mono HO104.out (fun k_ hk => (⟨hk, hk.2⟩ : _ ∧ k_ ≠ gb112))) (fun _ hk => hk.2) (.int .i64 t109)) (fun _ hk => hk.2) (.string t110)) (fun _ h_ => h_.1))) (Kd.R_base ho23) hb); have n1_ := Aside0.mk (Kd.R_lower (Kd.R_newB (Kd.R_newB (Kd.R_new' ho23 (Kd.R_lt (by (with_reducible repeat (first | apply Kd.R_alloc | apply Kd.R_drewN | apply Kd.R_drew)); exact (Kd.R_mono (Kd.R_far (p := ⟨gb112, 1, none⟩) (Kd.R_far (p := ⟨gb112, 0, none⟩) (Kd.R_mono HO104.out (fun k_ hk => (⟨hk, hk.2⟩ : _ ∧ k_ ≠ gb112))) (fun _ hk => hk.2) (.int .i64 t109)) (fun _ hk => hk.2) (.string t110)) (fun _ h_ => h_.1))))) (g := gb108) (o := .cells #[.int .i64 t105, .string t106] 54 (0, 0)) (by (with_reducible repeat (first | refine blk_drewN ?_ _ | refine blk_drew ?_ | refine blk_alloc ?_ _)); refine blk_far ?_ NB108_112.out _; (with_reducible repeat (first | refine blk_drewN ?_ _ | refine blk_drew ?_ | refine blk_alloc ?_ _)); refine blk_far ?_ NB108_112.out _; (with_reducible repeat (first | refine blk_drewN ?_ _ | refine blk_drew ?_ | refine blk_alloc ?_ _)); exact BK108.out)) (g := gb112) (o := .cells #[.int .i64 t109, .string t110] 54 (0, 0)) (by (with_reducible repeat (first | refine blk_drewN ?_ _ | refine blk_drew ?_ | refine blk_alloc ?_ _)); refine blk_put (cs := #[.int .i64 t109, .string (⟨#[]⟩ : ByteArray)]) ?_ 1 _ rfl; (with_reducible repeat (first | refine blk_drewN ?_ _ | refine blk_drew ?_ | refine blk_alloc ?_ _)); refine blk_put (cs := #[.int .i64 0, .string (⟨#[]⟩ : ByteArray)]) ?_ 0 _ rfl; (with_reducible repeat (first | refine blk_drewN ?_ _ | refine blk_drew ?_ | refine blk_alloc ?_ _)); exact BK112.out)) (below_size (by repeat (first | (with_reducible first | exact HB.out | apply below_alloc | apply pw_below_drewN | apply below_drew1 | refine below_set ?_ GE108.out | refine below_set ?_ GE112.out) | exact HB.out)))); have n2_ := Aside0.mk (blk_below (g := gb108) (o := .cells #[.int .i64 t105, .string t106] 54 (0, 0)) (by (with_reducible repeat (first | refine blk_drewN ?_ _ | refine blk_drew ?_ | refine blk_alloc ?_ _)); refine blk_far ?_ NB108_112.out _; (with_reducible repeat (first | refine blk_drewN ?_ _ | refine blk_drew ?_ | refine blk_alloc ?_ _)); refine blk_far ?_ NB108_112.out _; (with_reducible repeat (first | refine blk_drewN ?_ _ | refine blk_drew ?_ | refine blk_alloc ?_ _)); exact BK108.out) hb); have n3_ := Aside0.mk (blk_below (g := gb112) (o := .cells #[.int .i64 t109, .string t110] 54 (0, 0)) (by (with_reducible repeat (first | refine blk_drewN ?_ _ | refine blk_drew ?_ | refine blk_alloc ?_ _)); refine blk_put (cs := #[.int .i64 t109, .string (⟨#[]⟩ : ByteArray)]) ?_ 1 _ rfl; (with_reducible repeat (first | refine blk_drewN ?_ _ | refine blk_drew ?_ | refine blk_alloc ?_ _)); refine blk_put (cs := #[.int .i64 0, .string (⟨#[]⟩ : ByteArray)]) ?_ 0 _ rfl; (with_reducible repeat (first | refine blk_drewN ?_ _ | refine blk_drew ?_ | refine blk_alloc ?_ _)); exact BK112.out) hb); have n4_ := Aside0.mk (below_step (by repeat (first | (with_reducible first | exact HB.out | apply below_alloc | apply pw_below_drewN | apply below_drew1 | refine below_set ?_ GE108.out | refine below_set ?_ GE112.out) | exact HB.out)) hb); clear HO104; clear BK108; clear BK112; clear HB; have HO104 := n0_; have HO115 := n1_; have BK108 := n2_; have BK112 := n3_; have HB := n4_; clear n0_ n1_ n2_ n3_ n4_; clear hb ho23; obtain ⟨Ao24, co24, eo24⟩ := Kd.R_slice HO115.out; subst eo24) | ((with_reducible refine gate_callee (f := 41) rfl ?_); refine goesL_ (some 21) rfl rfl Try.func41 (by kernel_rfl) rfl #[.agg #[.int .i64 4, .string (⟨#[]⟩ : ByteArray)], .slice Ao24 y113.length co24] rfl (by (try simp only [List.map_toArray, List.map_cons, List.map_nil]); first | done | rfl | (simp only [List.length_drop, List.length_take]; rfl)) ?_; (with_reducible refine (kind_Desc.calls 4 (⟨#[]⟩ : ByteArray) _ _ y113 t116 t117 _ ?side1 ?side2 A3.out).mono ?_); (case side1 => repeat (first | exact (Kd.R_reads' HO115.out).2.2 | (with_reducible refine Kd.C_alloc ?_ _) | (with_reducible refine Kd.C_drewN ?_ _) | (with_reducible refine Kd.C_drew ?_))); (case side2 => exact (Kd.R_reads' HO115.out).2.1); rintro e w25 ⟨rfl, hb⟩; refine ⟨_, rfl, ?_⟩; have n0_ := Aside0.mk (Kd.R_below (by (with_reducible repeat (first | apply Kd.R_alloc | apply Kd.R_drewN | apply Kd.R_drew)); exact HO104.out) hb); have n1_ := Aside0.mk (Kd.R_below (by (with_reducible repeat (first | apply Kd.R_alloc | apply Kd.R_drewN | apply Kd.R_drew)); exact HO115.out) hb); have n2_ := Aside0.mk (blk_below (g := gb108) (o := .cells #[.int .i64 t105, .string t106] 54 (0, 0)) (by (with_reducible repeat (first | refine blk_drewN ?_ _ | refine blk_drew ?_ | refine blk_alloc ?_ _)); exact BK108.out) hb); have n3_ := Aside0.mk (blk_below (g := gb112) (o := .cells #[.int .i64 t109, .string t110] 54 (0, 0)) (by (with_reducible repeat (first | refine blk_drewN ?_ _ | refine blk_drew ?_ | refine blk_alloc ?_ _)); exact BK112.out) hb); have n4_ := Aside0.mk (below_step (by repeat (first | (with_reducible first | exact HB.out | apply below_alloc | apply pw_below_drewN | apply below_drew1 | refine below_set ?_ GE108.out | refine below_set ?_ GE112.out) | exact HB.out)) hb); clear HO104; clear HO115; clear BK108; clear BK112; clear HB; have HO104 := n0_; have HO115 := n1_; have BK108 := n2_; have BK112 := n3_; have HB := n4_; clear n0_ n1_ n2_ n3_ n4_; (try clear hb); (try clear hb2); (try clear hk); (try clear hi); obtain ⟨Ao26, co26, eo26⟩ := Kd.R_slice HO104.out; subst eo26; have p118 : 0 ≤ (1 : Int) := (by omega); have q118 : 1 < (t102.length : Int) := of_decide_eq_true (by first | (with_reducible assumption) | assumption); obtain ⟨ad118, e118, hx118_0, hx118_1⟩ := at_T54 (Kd.R_reads' HO104.out).2.2 1 p118 q118; cases e118; (try simp only [show (1 : Int).toNat = 1 from rfl, Nat.reduceMul, Nat.reduceEqDiff, Go.Addr.add, ↓reduceIte] at hx118_0); (try simp only [show (1 : Int).toNat = 1 from rfl, Nat.reduceMul, Nat.reduceEqDiff, Go.Addr.add, ↓reduceIte] at hx118_1); have qi118 : (1 < t102.length) = True := eq_true (by omega); (try rw [show ((1 : Int)).toNat = 1 from rfl] at hx118_0); (try rw [show 1 * 2 = 2 from rfl] at hx118_0); (try rw [show ((1 : Int)).toNat = 1 from rfl] at hx118_1); (try rw [show 1 * 2 = 2 from rfl] at hx118_1); replace p118 := eq_true p118; replace q118 := eq_true q118; have hcz27_0 : w25.cell? ⟨gb108, 0, none⟩ = some (.int .i64 t105) := (blk_cell BK108.out 0).trans rfl; have hcz27_1 : w25.cell? ⟨gb108, 1, none⟩ = some (.string t106) := (blk_cell BK108.out 1).trans rfl; have hfz27_0 := blk_frozen BK108.out 0; have hfz27_1 := blk_frozen BK108.out 1) | ((with_reducible refine gate_dst (N := 57) rfl ?_); (try (refine gate_guard (by rfl) ?_; dsimp only)); refine Kd.R_lit k78 _ 78 ?hg (N := 57) ?hd (xs := ([(⟨(⟨#[65]⟩ : ByteArray), (⟨#[99]⟩ : ByteArray)⟩ : S78)] : List (S78))) (inner := [.string (⟨#[65]⟩ : ByteArray), .string (⟨#[99]⟩ : ByteArray)]) (ok := fun _ => True) (okp := fun _ => True) ?hr ?hp (fun _ hk => hk) trivial (Below.refl _ _) (Nat.le_refl _) (by simp) ?_; (case hd => rfl); (case hg => rfl); (case hr => first | (go_simp; done) | (go_simp; rfl)); (case hp => exact (Reps.c2 (show Kd.M k78 _ _ _ (⟨(⟨#[65]⟩ : ByteArray), (⟨#[99]⟩ : ByteArray)⟩ : S78) [.string (⟨#[65]⟩ : ByteArray), .string (⟨#[99]⟩ : ByteArray)] from (k78_mkM _ _ _ (⟨(⟨#[65]⟩ : ByteArray), (⟨#[99]⟩ : ByteArray)⟩ : S78) )) (Reps.none _ _))); intro v120 w28 ho29 hb hg_ hnew_; clear hg_ hnew_; (first | rw [← Ny119.out] at ho29 | (simp only [Int.reduceToNat] at ho29; rw [← Ny119.out] at ho29)); have n0_ := Aside0.mk (Kd.R_below (by (with_reducible repeat (first | apply Kd.R_alloc | apply Kd.R_drewN | apply Kd.R_drew)); exact HO104.out) hb); have n1_ := Aside0.mk (Kd.R_below (by (with_reducible repeat (first | apply Kd.R_alloc | apply Kd.R_drewN | apply Kd.R_drew)); exact HO115.out) hb); have n2_ := Aside0.mk (Kd.R_lower ho29 (below_size (by repeat (first | (with_reducible first | exact HB.out | apply below_alloc | apply pw_below_drewN | apply below_drew1 | refine below_set ?_ GE108.out | refine below_set ?_ GE112.out) | exact HB.out)))); have n3_ := Aside0.mk (blk_below (g := gb108) (o := .cells #[.int .i64 t105, .string t106] 54 (0, 0)) (by (with_reducible repeat (first | refine blk_drewN ?_ _ | refine blk_drew ?_ | refine blk_alloc ?_ _)); exact BK108.out) hb); have n4_ := Aside0.mk (blk_below (g := gb112) (o := .cells #[.int .i64 t109, .string t110] 54 (0, 0)) (by (with_reducible repeat (first | refine blk_drewN ?_ _ | refine blk_drew ?_ | refine blk_alloc ?_ _)); exact BK112.out) hb); have n5_ := Aside0.mk (below_step (by repeat (first | (with_reducible first | exact HB.out | apply below_alloc | apply pw_below_drewN | apply below_drew1 | refine below_set ?_ GE108.out | refine below_set ?_ GE112.out) | exact HB.out)) hb); clear HO104; clear HO115; clear BK108; clear BK112; clear HB; have HO104 := n0_; have HO115 := n1_; have HO121 := n2_; have BK108 := n3_; have BK112 := n4_; have HB := n5_; clear n0_ n1_ n2_ n3_ n4_ n5_; clear hb ho29; obtain ⟨Ao30, co30, eo30⟩ := Kd.R_slice HO121.out; subst eo30) | (go_at_call 46; (with_reducible refine (kind_Renamed.calls (⟨#[40, 76, 65, 59, 41, 73]⟩ : ByteArray) _ _ y119 t122 _ ?side1 ?side2 ?side3 A12.out).mono ?_); (case side1 => repeat (first | exact (Kd.R_reads' HO121.out).2.2 | (with_reducible refine Kd.C_alloc ?_ _) | (with_reducible refine Kd.C_drewN ?_ _) | (with_reducible refine Kd.C_drew ?_))); (case side2 => exact (Kd.R_reads' HO121.out).2.1); (case side3 => exact MaxL.below HGMaxL.out (by repeat (first | (with_reducible first | exact HB.out | apply below_alloc | apply pw_below_drewN | apply below_drew1 | refine below_set ?_ GE108.out | refine below_set ?_ GE112.out) | exact HB.out))); rintro e w31 ⟨rfl, hb⟩; have n0_ := Aside0.mk (Kd.R_below (by (with_reducible repeat (first | apply Kd.R_alloc | apply Kd.R_drewN | apply Kd.R_drew)); exact HO104.out) hb); have n1_ := Aside0.mk (Kd.R_below (by (with_reducible repeat (first | apply Kd.R_alloc | apply Kd.R_drewN | apply Kd.R_drew)); exact HO115.out) hb); have n2_ := Aside0.mk (Kd.R_below (by (with_reducible repeat (first | apply Kd.R_alloc | apply Kd.R_drewN | apply Kd.R_drew)); exact HO121.out) hb); have n3_ := Aside0.mk (blk_below (g := gb108) (o := .cells #[.int .i64 t105, .string t106] 54 (0, 0)) (by (with_reducible repeat (first | refine blk_drewN ?_ _ | refine blk_drew ?_ | refine blk_alloc ?_ _)); exact BK108.out) hb); have n4_ := Aside0.mk (blk_below (g := gb112) (o := .cells #[.int .i64 t109, .string t110] 54 (0, 0)) (by (with_reducible repeat (first | refine blk_drewN ?_ _ | refine blk_drew ?_ | refine blk_alloc ?_ _)); exact BK112.out) hb); have n5_ := Aside0.mk (below_step (by repeat (first | (with_reducible first | exact HB.out | apply below_alloc | apply pw_below_drewN | apply below_drew1 | refine below_set ?_ GE108.out | refine below_set ?_ GE112.out) | exact HB.out)) hb); clear HO104; clear HO115; clear HO121; clear BK108; clear BK112; clear HB; have HO104 := n0_; have HO115 := n1_; have HO121 := n2_; have BK108 := n3_; have BK112 := n4_; have HB := n5_; clear n0_ n1_ n2_ n3_ n4_ n5_; (try clear hb); (try clear hb2); (try clear hk); (try clear hi); have p123 : 0 ≤ (1 : Int) := (by omega); have q123 : 1 < (t102.length : Int) := of_decide_eq_true (by first | (with_reducible assumption) | assumption); obtain ⟨ad123, e123, hx123_0, hx123_1⟩ := at_T54 (Kd.R_reads' HO104.out).2.2 1 p123 q123; obtain rfl : ad118 = ad123 := (by injection e123); (try simp only [show (1 : Int).toNat = 1 from rfl, Nat.reduceMul, Nat.reduceEqDiff, Go.Addr.add, ↓reduceIte] at hx123_0); (try simp only [show (1 : Int).toNat = 1 from rfl, Nat.reduceMul, Nat.reduceEqDiff, Go.Addr.add, ↓reduceIte] at hx123_1); have qi123 : (1 < t102.length) = True := eq_true (by omega); (try rw [show ((1 : Int)).toNat = 1 from rfl] at hx123_0); (try rw [show 1 * 2 = 2 from rfl] at hx123_0); (try rw [show ((1 : Int)).toNat = 1 from rfl] at hx123_1); (try rw [show 1 * 2 = 2 from rfl] at hx123_1); replace p123 := eq_true p123; replace q123 := eq_true q123) | (go_at_call 35; (with_reducible refine (kind_IsRef.calls ((rd_T54 t102 1).f0) ((rd_T54 t102 1).f1) t124 _ A14.out).mono ?_); rintro e w32 ⟨rfl, hb⟩; have n0_ := Aside0.mk (Kd.R_below (by (with_reducible repeat (first | apply Kd.R_alloc | apply Kd.R_drewN | apply Kd.R_drew)); exact HO104.out) hb); have n1_ := Aside0.mk (Kd.R_below (by (with_reducible repeat (first | apply Kd.R_alloc | apply Kd.R_drewN | apply Kd.R_drew)); exact HO115.out) hb); have n2_ := Aside0.mk (Kd.R_below (by (with_reducible repeat (first | apply Kd.R_alloc | apply Kd.R_drewN | apply Kd.R_drew)); exact HO121.out) hb); have n3_ := Aside0.mk (blk_below (g := gb108) (o := .cells #[.int .i64 t105, .string t106] 54 (0, 0)) (by (with_reducible repeat (first | refine blk_drewN ?_ _ | refine blk_drew ?_ | refine blk_alloc ?_ _)); exact BK108.out) hb); have n4_ := Aside0.mk (blk_below (g := gb112) (o := .cells #[.int .i64 t109, .string t110] 54 (0, 0)) (by (with_reducible repeat (first | refine blk_drewN ?_ _ | refine blk_drew ?_ | refine blk_alloc ?_ _)); exact BK112.out) hb); have n5_ := Aside0.mk (below_step (by repeat (first | (with_reducible first | exact HB.out | apply below_alloc | apply pw_below_drewN | apply below_drew1 | refine below_set ?_ GE108.out | refine below_set ?_ GE112.out) | exact HB.out)) hb); clear HO104; clear HO115; clear HO121; clear BK108; clear BK112; clear HB; have HO104 := n0_; have HO115 := n1_; have HO121 := n2_; have BK108 := n3_; have BK112 := n4_; have HB := n5_; clear n0_ n1_ n2_ n3_ n4_ n5_; (try clear hb); (try clear hb2); (try clear hk); (try clear hi)))
                    go_ret
                    exact ⟨by first | rfl | (simp [errW_none, errW_some] <;> rfl) | (simp [*, errW_none, errW_some] <;> rfl), by repeat (first | (with_reducible first | exact HB.out | apply below_alloc | apply pw_below_drewN | apply below_drew1 | refine below_set ?_ GE108.out | refine below_set ?_ GE112.out) | exact HB.out)⟩
                  · rw [if_neg c13] at H
                    exact absurd ((Option.some.inj H).trans HRT.out) (by decide)
                · rw [if_neg c11] at H
                  exact absurd ((Option.some.inj H).trans HRT.out) (by decide)
              · rw [if_neg c10] at H
                exact absurd ((Option.some.inj H).trans HRT.out) (by decide)
            · rw [if_neg c9] at H
              exact absurd ((Option.some.inj H).trans HRT.out) (by decide)
          · rw [if_neg c8] at H
            exact absurd ((Option.some.inj H).trans HRT.out) (by decide)
        · rw [if_neg c7] at H
          exact absurd ((Option.some.inj H).trans HRT.out) (by decide)
      · rw [if_neg c6] at H
        exact absurd ((Option.some.inj H).trans HRT.out) (by decide)
    · rw [if_neg c5] at H
      exact absurd H (by simp)
  · rw [if_neg c4] at H
    exact absurd ((Option.some.inj H).trans HRT.out) (by decide)
end Go.Proofs.Ytcbakmojhicahaa.Q10
end

section
-- Written by this session's program layer.py (the kit's print, turned), not by hand.
namespace Go.Proofs.Ytcbakmojhicahaa.Q10
open Go.RowKit Go.Proofs.YtcbakmojhicahaaW.PrintWords Go.Proofs.YtcbakmojhicahaaW.PrintLast Go.Proofs.YtcbakmojhicahaaW.PrintMore Go.Proofs.Ytcbakmojhicahaa.Hand
attribute [local go_sem] max2_int min2_int max_two min_two max_three min_three max_four min_four   -- for this text's walks alone
set_option linter.unusedVariables false
set_option linter.unusedSimpArgs false

end Go.Proofs.Ytcbakmojhicahaa.Q10
end

section
namespace Go.Proofs.Ytcbakmojhicahaa.Hand
open Go.RowKit Go.Shelf Go.Proofs.YtcbakmojhicahaaW.PrintWords Go.Proofs.YtcbakmojhicahaaW.PrintLast Go.Proofs.YtcbakmojhicahaaW.PrintMore
set_option linter.unusedVariables false
set_option linter.unusedSimpArgs false

def secateurlaw06_live.f : Option Bool := some true
theorem secateurlaw06_live.calls (r : Bool) (w : World) (hGMaxL : MaxL w) (h : secateurlaw06_live.f = some r) :
    Calls Try.prog 30 #[] w fun e w' => e = .returned (.bool r) ∧ Below w.heap.size w w' := by
  obtain rfl := Option.some.inj h
  exact Q10.secateurlaw06_live.calls true w hGMaxL (by kernel_rfl) rfl
end Go.Proofs.Ytcbakmojhicahaa.Hand
end

section
/- Openings of arguments that are slices of strings. -/
namespace Go.Proofs.Ytcbakmojhicahaa.Hand
open Go.ChangeShapes Go.WideShapes Go.ChangeAt Go.RowKit Go.Proofs.YtcbakmojhicahaaW.PrintWords Go.Proofs.YtcbakmojhicahaaW.PrintLast Go.Proofs.YtcbakmojhicahaaW.PrintMore
section
variable {H : Type} {enc : TypeId × Value → H} {P : Program} {w : World} {base : Nat} {spare : Nat → Bool} {held : Bool}
theorem open_strRow {r : Reach} {b0 : Nat} {t e : TypeId} {v : Value} {d : DataW H} {ps : List MemPlace} (ht : P.underlying t = some (.slice e)) (he : P.underlying e = some .string) (hc : P.cellsOf e = 1)
    (hval : Value.okWide P w r b0 t v) (hd : DataW.Trod enc P w base spare held t v d ps) :
    ∃ (A : Option Addr) (cap : Nat) (l : List ByteArray), v = .slice A l.length cap ∧ l.length ≤ cap ∧ Kd.C Kd.string w A l.length l ∧ l.length ≤ 9223372036854775807 := by
  obtain ⟨a, len, cap, rfl⟩ := okWide_slice ht hval
  obtain ⟨fuel, hf⟩ := hd
  rcases open_strings ht he hc hf with ⟨hcs, _⟩ | ⟨x, l, c, ss, hcs, _, hl, hm, hz, _, hcell, _⟩
  · simp [Value.cells] at hcs
    obtain ⟨rfl, rfl, rfl⟩ := hcs
    exact ⟨none, 0, [], rfl, Nat.le_refl _, Kd.C_nil _ _, by decide⟩
  · simp [Value.cells] at hcs
    obtain ⟨rfl, rfl, rfl⟩ := hcs
    have hls : len ≤ ss.length := by rw [hz]; split <;> omega
    have hlen : (ss.take len).length = len := by rw [List.length_take]; omega
    have hmx : len ≤ 9223372036854775807 := by unfold maxLen at hm; omega
    refine ⟨some x, cap, ss.take len, by rw [hlen], by rw [hlen]; exact hl, ?_, by rw [hlen]; exact hmx⟩
    rw [hlen]
    refine Kd.C_of_reads (d := ByteArray.empty) (h1 := fun _ => rfl) ⟨hlen, hmx, fun _ => ⟨x, rfl, fun j hj => ?_⟩⟩
    rw [hcell j (by omega)]
    congr 2
    simp [List.getD, hj]
end
end Go.Proofs.Ytcbakmojhicahaa.Hand
end

section
/- Openings of arguments that are slices of structs with two cells. -/
namespace Go.Proofs.Ytcbakmojhicahaa.Hand
open Go.ChangeShapes Go.WideShapes Go.ChangeAt Go.Joins Go.Deep Go.RowKit Go.Proofs.YtcbakmojhicahaaW.PrintWords Go.Proofs.YtcbakmojhicahaaW.PrintLast Go.Proofs.YtcbakmojhicahaaW.PrintMore
theorem list_each {α : Type} {Q : Nat → α → Prop} : ∀ (n : Nat), (∀ i, i < n → ∃ a, Q i a) → ∃ l : List α, l.length = n ∧ ∀ i a, l[i]? = some a → Q i a
  | 0, _ => ⟨[], rfl, fun i a h => by simp at h⟩
  | n + 1, h => by
    obtain ⟨l, hl, hq⟩ := list_each n fun i hi => h i (by omega)
    obtain ⟨a, ha⟩ := h n (by omega)
    refine ⟨l ++ [a], by simp [hl], fun i b hb => ?_⟩
    by_cases hi : i < l.length
    · rw [List.getElem?_append_left hi] at hb
      exact hq i b hb
    · rw [List.getElem?_append_right (by omega)] at hb
      have h0 : i - l.length = 0 := by
        have := (List.getElem?_eq_some_iff.1 hb).1
        simp at this
        omega
      rw [h0] at hb
      simp at hb
      have : i = n := by omega
      rw [this, ← hb]
      exact ha
theorem cells_two {w : World} {base : Nat} {a : Addr} {cs : List Value} (h : w.cells? base a 2 = some cs) : ∃ u v, cs = [u, v] ∧ w.cell? (a.add 0) = some u ∧ w.cell? (a.add 1) = some v := by
  unfold World.cells? at h
  split at h
  · have e : List.range 2 = [0, 1] := rfl
    rw [e] at h
    simp only [List.mapM_cons, List.mapM_nil] at h
    cases h0 : w.cell? (a.add 0) with
    | none => rw [h0] at h; cases h
    | some u =>
      cases h1 : w.cell? (a.add 1) with
      | none => rw [h0, h1] at h; cases h
      | some v =>
        rw [h0, h1] at h
        cases h
        exact ⟨u, v, rfl, rfl, rfl⟩
  · cases h
theorem add_add (a : Addr) (i j : Nat) : (a.add i).add j = a.add (i + j) := by
  unfold Addr.add
  by_cases hi : i = 0
  · subst hi; simp
  · by_cases hj : j = 0
    · subst hj; simp
    · rw [if_neg hi, if_neg hj, if_neg (by omega), Nat.add_assoc]
section
variable {H : Type} {enc : TypeId × Value → H} {P : Program} {w : World} {base : Nat} {spare : Nat → Bool} {held : Bool}
theorem weights_all {t : TypeId} : ∀ {l : List (DataW H)} {d : DataW H}, d ∈ l → ∀ n ∈ d.weights P t, n ∈ DataW.weightsAll P t l
  | a :: l, d, hd, n, hn => by
    simp only [DataW.weightsAll, List.mem_append]
    rcases List.mem_cons.1 hd with rfl | hd
    · exact .inl hn
    · exact .inr (weights_all hd n hn)
theorem open_rows2 {α : Type} (kd : Kd α) (Q : α → Prop) (hs : kd.sz = 2) {t e : TypeId} {v : Value} {d : DataW H} {ps : List MemPlace} {r : Reach} {b0 : Nat}
    (ht : P.underlying t = some (.slice e)) (hc : P.cellsOf e = 2) (hB : 1 ≤ P.bytesOf e)
    (mk : ∀ n cs x, DataW.trod enc P w base spare held n e cs = some x → (∀ m ∈ x.1.weights P e, m ≤ reachBytes) → ∃ a : α, kd.K w a cs ∧ Q a)
    (hw : ∀ n ∈ d.weights P t, n ≤ reachBytes)
    (hval : Value.okWide P w r b0 t v) (hd : DataW.Trod enc P w base spare held t v d ps) :
    ∃ (A : Option Addr) (cap : Nat) (l : List α), v = .slice A l.length cap ∧ l.length ≤ cap ∧ Kd.C kd w A l.length l ∧ l.length ≤ 140737488351232 ∧ ∀ x ∈ l, Q x := by
  obtain ⟨a, len, cap, rfl⟩ := okWide_slice ht hval
  obtain ⟨fuel, hf⟩ := hd
  rcases DataW.trod_slice ht hf with ⟨hcs, _⟩ | ⟨x, l, c, elems, rest, n, _, hcs, hx, hb, hl, hm, hlen, hel, _, _⟩
  · simp [Value.cells] at hcs
    obtain ⟨rfl, rfl, rfl⟩ := hcs
    exact ⟨none, 0, [], rfl, Nat.le_refl _, ⟨rfl, Nat.zero_le _, fun h => absurd h (Nat.lt_irrefl 0)⟩, Nat.zero_le _, by simp⟩
  · simp [Value.cells] at hcs
    obtain ⟨rfl, rfl, rfl⟩ := hcs
    obtain ⟨hx, _⟩ := Prod.mk.inj hx
    subst hx
    have hlw : len ≤ 140737488351232 := by
      have h1 := hw ((elems.map (·.1)).length * P.bytesOf e + (rest.map (·.1)).length * P.bytesOf e) (by simp [DataW.weights, ht, Nat.add_mul])
      rw [List.length_map, hlen] at h1
      have h2 : len * 1 ≤ len * P.bytesOf e := Nat.mul_le_mul_left _ hB
      have h3 : reachBytes = 140737488351232 := rfl
      omega
    have each : ∀ i, i < len → ∃ y : α, Q y ∧ ∃ cs : List Value, cs.length = 2 ∧ kd.K w y cs ∧ ∀ j u, cs[j]? = some u → w.cell? (x.add (i * 2 + j)) = some u := by
      intro i hi
      have h1 := hel i hi
      have hi2 : i < elems.length := by omega
      rw [List.getElem?_eq_getElem hi2, hc, Option.bind_eq_some_iff] at h1
      obtain ⟨cs, h2, h3⟩ := h1
      obtain ⟨y, h4, h5⟩ := mk _ _ _ h3 (fun m hm => hw m (by
        simp only [DataW.weights, ht, List.mem_cons, List.mem_append]
        exact .inr (.inl (weights_all (List.mem_map_of_mem (List.getElem_mem hi2)) m hm))))
      obtain ⟨u, v, rfl, h6, h7⟩ := cells_two h2
      refine ⟨y, h5, [u, v], rfl, h4, fun j z hz => ?_⟩
      rw [add_add] at h6 h7
      match j, hz with
      | 0, hz => cases hz; exact h6
      | 1, hz => cases hz; exact h7
      | j + 2, hz => simp at hz
    obtain ⟨ls, hls, hq⟩ := list_each len each
    have hmx : len ≤ 9223372036854775807 := by omega
    refine ⟨some x, cap, ls, by rw [hls], by rw [hls]; exact hl, ⟨rfl, by rw [hls]; exact hmx, fun _ => ⟨x, rfl, fun j p hp => ?_⟩⟩, by rw [hls]; exact hlw, fun y hy => ?_⟩
    · obtain ⟨_, cs, h1, h2, h3⟩ := hq j p hp
      exact ⟨cs, by rw [hs]; exact h1, h2, fun i u hu => by rw [hs]; exact h3 i u hu⟩
    · obtain ⟨i, hi⟩ := List.getElem?_of_mem hy
      exact (hq i y hi).1
theorem mk_type {e : TypeId} {f0 f1 : Field} (he : P.underlying e = some (.struct #[f0, f1])) (hc : P.cellsOf e = 2) (o0 : f0.offset = 0) (o1 : f1.offset = 1) (z0 : P.cellsOf f0.type = 1) (z1 : P.cellsOf f1.type = 1)
    (h0 : P.underlying f0.type = some (.int .i64)) (h1 : P.underlying f1.type = some .string) (n : Nat) (cs : List Value) (x : DataW H × List MemPlace) (h : DataW.trod enc P w base spare held n e cs = some x) (hwt : ∀ m ∈ x.1.weights P e, m ≤ reachBytes) :
    ∃ a : S54, k54.K w a cs ∧ a.f1.size ≤ 140737488351232 := by
  obtain ⟨y0, y1, m, hx, hl, g0, g1⟩ := trod_struct2 he h
  rw [o0, z0, List.drop_zero] at g0
  rw [o1, z1] at g1
  rw [hc] at hl
  match cs, hl with
  | [u, v], _ =>
    obtain ⟨k, hk, hy0, _⟩ := DataW.trod_int h0 g0
    obtain ⟨s, hs, hy1, hz⟩ := DataW.trod_string h1 g1
    simp at hk hs
    subst hk hs hx hy0 hy1
    refine ⟨⟨k, s⟩, k54_mk w ⟨k, s⟩, ?_⟩
    have h2 := hwt s.data.toList.length (by simp [DataW.weights, he, DataW.weightsEach])
    rw [Array.length_toList] at h2
    exact h2
theorem mk_pair {e : TypeId} {f0 f1 : Field} (he : P.underlying e = some (.struct #[f0, f1])) (hc : P.cellsOf e = 2) (o0 : f0.offset = 0) (o1 : f1.offset = 1) (z0 : P.cellsOf f0.type = 1) (z1 : P.cellsOf f1.type = 1)
    (h0 : P.underlying f0.type = some .string) (h1 : P.underlying f1.type = some .string) (n : Nat) (cs : List Value) (x : DataW H × List MemPlace) (h : DataW.trod enc P w base spare held n e cs = some x) (hwt : ∀ m ∈ x.1.weights P e, m ≤ reachBytes) :
    ∃ a : S78, k78.K w a cs ∧ a.f0.size ≤ 140737488351232 ∧ a.f1.size ≤ 140737488351232 := by
  obtain ⟨y0, y1, m, hx, hl, g0, g1⟩ := trod_struct2 he h
  rw [o0, z0, List.drop_zero] at g0
  rw [o1, z1] at g1
  rw [hc] at hl
  match cs, hl with
  | [u, v], _ =>
    obtain ⟨k, hk, hy0, hz0⟩ := DataW.trod_string h0 g0
    obtain ⟨s, hs, hy1, hz⟩ := DataW.trod_string h1 g1
    simp at hk hs
    subst hk hs hx hy0 hy1
    have h2 := hwt k.data.toList.length (by simp [DataW.weights, he, DataW.weightsEach])
    have h3 := hwt s.data.toList.length (by simp [DataW.weights, he, DataW.weightsEach])
    rw [Array.length_toList] at h2 h3
    exact ⟨⟨k, s⟩, k78_mk w ⟨k, s⟩, h2, h3⟩
theorem open_tyArg {r : Reach} {b0 : Nat} {t : TypeId} {f0 f1 : Field} {v : Value} {d : DataW H} {p : List MemPlace} (hs : P.underlying t = some (.struct #[f0, f1])) (hone : oneCellFields P #[f0, f1] = true) (hC : P.cellsOf t = 2)
    (h0 : P.underlying f0.type = some (.int .i64)) (h1 : P.underlying f1.type = some .string) (hw : ∀ n ∈ d.weights P t, n ≤ reachBytes) (hv : Value.okWide P w r b0 t v) (h : DataW.Trod enc P w base spare held t v d p) :
    ∃ (k : Int) (c : ByteArray), v = .agg #[.int .i64 k, .string c] ∧ c.size ≤ 140737488351232 := by
  obtain ⟨v0, v1, y0, y1, n, rfl, hx, _, g0, g1⟩ := open_agg2 hs hone hC hv h
  obtain ⟨k, hk, hy0, _⟩ := DataW.trod_int h0 g0
  obtain ⟨s, hs2, hy1, hz⟩ := DataW.trod_string h1 g1
  simp at hk hs2
  subst hk hs2 hx hy0 hy1
  have h2 := hw s.data.toList.length (by simp [DataW.weights, hs, DataW.weightsEach])
  rw [Array.length_toList] at h2
  exact ⟨k, s, rfl, h2⟩
end
end Go.Proofs.Ytcbakmojhicahaa.Hand
end

section
/- What each row asks of the whole program, told once. -/
namespace Go.Proofs.Ytcbakmojhicahaa.Hand
theorem seat_mayEnter : Try.prog.mayEnter = true := by kernel_rfl
theorem seat_lifts : Try.prog.liftsFinal = false := by kernel_rfl
theorem seat_make : Try.prog.make = some .cut := by kernel_rfl
end Go.Proofs.Ytcbakmojhicahaa.Hand
end
