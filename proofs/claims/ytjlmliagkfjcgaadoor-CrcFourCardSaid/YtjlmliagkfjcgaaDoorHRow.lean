/- Openings of arguments that the kit's words lack. -/
import Derived.Test.YtjlmliagkfjcgaaDoorRows
import Derived.OpenShut
import Derived.Laws.IdiomArrays
import Derived.ProofKit
namespace Go.Proofs.YtjlmliagkfjcgaaDoor.Hand
open Go.ChangeShapes Go.WideShapes Go.ChangeAt
section
variable {H : Type} {enc : TypeId × Value → H} {P : Program} {w : World} {base : Nat} {spare : Nat → Bool} {held : Bool}
theorem okWide_array {r : Reach} {b0 : Nat} {t e : TypeId} {n : Nat} {v : Value} (ht : P.underlying t = some (.array n e)) (h : Value.okWide P w r b0 t v) : ∃ cs, v = .agg cs ∧ cs.size = P.cellsOf t := by
  simp only [Value.okWide, ht] at h
  obtain ⟨cs, h1, h2, _⟩ := h
  exact ⟨cs, h1, h2⟩
/-- An array of four whole numbers, by value. -/
theorem open_ints4 {r : Reach} {b0 : Nat} {t e : TypeId} {k : IntKind} {v : Value} {d : DataW H} {ps : List MemPlace} (ht : P.underlying t = some (.array 4 e)) (he : P.underlying e = some (.int k)) (hce : P.cellsOf e = 1) (hct : P.cellsOf t = 4)
    (hval : Value.okWide P w r b0 t v) (hd : DataW.Trod enc P w base spare held t v d ps) :
    ∃ a b c e : Int, v = .agg #[.int k a, .int k b, .int k c, .int k e] ∧ (Lit.int k a).wf = true ∧ (Lit.int k b).wf = true ∧ (Lit.int k c).wf = true ∧ (Lit.int k e).wf = true := by
  obtain ⟨cs, rfl, hs⟩ := okWide_array ht hval
  obtain ⟨fuel, hf⟩ := hd
  rw [hct] at hs
  match cs, hs with
  | ⟨[x0, x1, x2, x3]⟩, _ =>
    obtain ⟨y0, y1, y2, y3, n, _, h0, h1, h2, h3⟩ := trod_array4 ht hce hf
    obtain ⟨n0, q0, _, w0⟩ := DataW.trod_int he h0
    obtain ⟨n1, q1, _, w1⟩ := DataW.trod_int he h1
    obtain ⟨n2, q2, _, w2⟩ := DataW.trod_int he h2
    obtain ⟨n3, q3, _, w3⟩ := DataW.trod_int he h3
    simp only [List.cons.injEq, and_true] at q0 q1 q2 q3
    subst q0 q1 q2 q3
    exact ⟨n0, n1, n2, n3, rfl, w0, w1, w2, w3⟩
end
end Go.Proofs.YtjlmliagkfjcgaaDoor.Hand
