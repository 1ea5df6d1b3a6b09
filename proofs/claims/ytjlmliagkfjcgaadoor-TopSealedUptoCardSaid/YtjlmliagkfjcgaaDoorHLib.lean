import Derived.Test.YtjlmliagkfjcgaaDoorProg
import Derived.Below
import Derived.Deep.Draws
import Derived.Deep.AppendLies
import Derived.Maps.AppendAt
import Derived.OwnWalk
import Derived.Laws.BytesArg
import Derived.Laws.MakeOwn
import Derived.Laws.OwnMore
import Derived.Deep.OwnRows
import Derived.Tactics
import Derived.Lib.ConvBytes
import Derived.Laws.Slices
import Derived.WalkKit
import Derived.KernelRfl
import Derived.RowKit3
import Derived.Deep.LoopGhost
import Derived.Deep.QuietTactic
import Derived.BigQuiet
import Derived.WideLaws
import Derived.Deep.DeepCutAuto
import Derived.Deep.CutBlock
import Derived.Deep.RegionHeld3
import Derived.Laws.Rows
import Derived.Lib.AppendStr
import Derived.ArgAppend
import Derived.Laws.IdiomCopy
import Derived.OrdersHeld
import Derived.Laws.BitsLemmas
import Derived.RowKit
import Derived.Lib.Hide
import Derived.Laws.CopyOwn
import Derived.Test.YtjlmliagkfjcgaaDoorWWords
import Derived.Test.YtjlmliagkfjcgaaDoorWLast
import Derived.Test.YtjlmliagkfjcgaaDoorWTab
import Derived.Test.YtjlmliagkfjcgaaDoorWFour
import Derived.Test.YtjlmliagkfjcgaaDoorWQPut
import Derived.Test.YtjlmliagkfjcgaaDoorWApart
import Derived.Test.YtjlmliagkfjcgaaDoorWArr
import Derived.Test.YtjlmliagkfjcgaaDoorWZeros
import Derived.Test.YtjlmliagkfjcgaaDoorWFoot
import Derived.Test.YtjlmliagkfjcgaaDoorWKept
import Derived.Test.YtjlmliagkfjcgaaDoorWShare
import Derived.Test.YtjlmliagkfjcgaaDoorWN
import Derived.Test.YtjlmliagkfjcgaaDoorWFootNe
import Derived.Test.YtjlmliagkfjcgaaDoorWAt
import Derived.Test.YtjlmliagkfjcgaaDoorWEqStruct
import Derived.Test.YtjlmliagkfjcgaaDoorWRepsOne
import Derived.Test.YtjlmliagkfjcgaaDoorWInv
import Derived.Test.YtjlmliagkfjcgaaDoorWInvWords
import Derived.Test.YtjlmliagkfjcgaaDoorWGuard
import Derived.Test.YtjlmliagkfjcgaaDoorWNEv
import Derived.Test.YtjlmliagkfjcgaaDoorWMore
namespace Go.Proofs.YtjlmliagkfjcgaaDoor.Hand
open Go.RowKit Go.Proofs.YtjlmliagkfjcgaaDoorW.PrintWords Go.Proofs.YtjlmliagkfjcgaaDoorW.PrintLast Go.Proofs.YtjlmliagkfjcgaaDoorW.PrintMore
set_option linter.unusedVariables false
set_option linter.unusedSimpArgs false

/-! ### Laws that the words lack -/
section
variable {P : Program} {ops : Array Oper} {o : Oper} {a : Act} {Q : Exit → Act → World → Prop} {Kc : Act → World → Prop}
/-- 'make([]T, 0, n)' in a region that draws: an empty row of the call's own. -/
theorem make0_step {k : IntKind} {w0 W : World} (base e : Nat) (hw : Region.wanted o (yielded ops a.tmps) = true) (t : TypeId) (x y : Operand) (ho : o.op = .makeSlice t x y) (n : Nat) (hx : a.eval x = .int .i64 0) (hy : a.eval y = .int .i64 (n : Int))
    (ht : P.underlying t = some (.slice e)) (z : Value) (bytes : Nat) (hinfo : (P.info? e).map (fun i => (i.zero, i.size, i.bytes)) = some (some z, 1, bytes)) (hl : bytes * n ≤ 281474976710656) (hn : n ≤ maxLen) (HB : Below base w0 W) (hbase : base ≤ W.heap.size)
    (h : ∀ v1 w1, (Kd.int k).R e w1 base (fun _ => True) v1 [] → Below base w0 w1 → W.grownBy w1 none → (∃ b, v1.ownBlock = some b ∧ W.heap.size ≤ b) → Kc (a.put o.dst v1) w1) : if Region.wanted o (yielded ops a.tmps) = true then Oper.wp P o a W Kc Q else Kc (a.put o.dst undef) W := by
  obtain ⟨i0, hi, hzz⟩ := Option.map_eq_some_iff.1 hinfo
  simp only [Prod.mk.injEq] at hzz
  obtain ⟨hz0, hz1, hz2⟩ := hzz
  obtain ⟨w1, hrun, hown, hgrow⟩ := run_make_own (P := P) W base t e i0 z 1 ht hi hz0 hz1 .i64 .i64 n (by rw [hz2]; exact hl) hn hbase
  refine event_step hw ?_ (h _ _ (Kd.R_of_own hown (fun _ _ => trivial)) (HB.grown hgrow hbase (fun k e => by cases e)) hgrow ⟨W.heap.size, by simp [Value.ownBlock], Nat.le_refl _⟩)
  simp [execOp, ho, hx, hy, hrun]
end
/-- A block of numbers reads as a row of them. -/
theorem C_of_blk {W : World} {g : Nat} {k : IntKind} {t : TypeId} {cs : List Int} (h : W.heap[g]? = some (.cells ((nums k cs).toArray) t (0, 0))) (hm : cs.length ≤ 9223372036854775807) : (Kd.int k).C W (some ⟨g, 0, none⟩) cs.length cs := by
  refine Kd.C_of_reads (d := (0 : Int)) (h1 := fun _ => rfl) ⟨rfl, hm, fun _ => ⟨⟨g, 0, none⟩, rfl, fun j hj => ?_⟩⟩
  have e : (⟨g, 0, none⟩ : Addr).add j = ⟨g, j, none⟩ := by simp [Addr.add]; intro h0; exact h0.symm
  rw [e, blk_cell h]
  simp [nums, List.getElem?_eq_getElem hj, List.getD]
end Go.Proofs.YtjlmliagkfjcgaaDoor.Hand
