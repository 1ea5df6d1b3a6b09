/- What a call asks of its arguments and its answer, when it goes to a method, is what the document says, for every constraint and every method; no condition. -/
-- Written by this session's program rowgen.py, not by hand.
import Derived.Test.YtfplcohjnlbfjaaRows
import Derived.Test.YtfplcohjnlbfjaaMgGenPass1
import Derived.WalkKit
import Derived.ProofKit
import Derived.OpenShut
import Derived.ShutString
import Derived.ChangeOld
import Derived.Below
import Derived.SizedLaws
import Derived.Deep.DeepHandedRow
import Derived.Lib.LaidTab
import Derived.Test.YtfplcohjnlbfjaaMgGenPass0
import Derived.Test.YtfplcohjnlbfjaaMgGenPass4
import Derived.Test.YtfplcohjnlbfjaaMgGenPass3
namespace Go.Proofs.Ytfplcohjnlbfjaa.genPass
open Go.ChangeShapes Go.WideShapes Go.ChangeAt Go.RowKit
open Go.ChangeMaps (open_string shut_string)
set_option linter.unusedVariables false
theorem own : ownKnob Try.prog.godebug = none := by kernel_rfl
theorem laidOut : laidOutB Try.prog = true := by kernel_rfl
def IsRow (k : IntKind) (w : World) (a : Option Addr) (len cap : Nat) (zs : List Int) : Prop :=
  (a = none ∧ len = 0 ∧ cap = 0 ∧ zs = []) ∨
  ∃ x, a = some x ∧ len ≤ cap ∧ cap ≤ maxLen ∧ zs.length = cap ∧ (∀ i, i < zs.length → w.cell? (x.add i) = some (.int k (zs.getD i 0))) ∧ ∀ n ∈ zs, (Lit.int k n).wf = true
open Go.Proofs.Ytfplcohjnlbfjaa.Hand in
theorem walkGenPass (c : S60) (A : Option Addr) (c0 : Nat) (m0 m1 m2 : ByteArray) (w : World) (hC : Go.Proofs.YtfplcohjnlbfjaaW.PrintWords.Kd.C (Go.Proofs.YtfplcohjnlbfjaaW.PrintWords.Kd.int .i64) w A c.f8.length c.f8) (hc : c.f8.length ≤ c0) :
    Calls Try.prog 5 #[.agg (List.toArray ((.int .i64 c.f0) :: (.int .i64 c.f1) :: (.int .i64 c.f2.f0) :: (.string c.f2.f1.f0) :: (.string c.f2.f1.f1) :: (.string c.f2.f1.f2) :: (.int .i64 c.f2.f2) :: (.string c.f2.f3.f0) :: [.string c.f2.f3.f1, .string c.f2.f4.f0.f0, .string c.f2.f4.f0.f1, .string c.f2.f4.f0.f2, .int .i64 c.f2.f4.f1, .string c.f2.f4.f2, .int .i64 c.f3.f0, .string c.f3.f1.f0, .string c.f3.f1.f1, .string c.f3.f1.f2, .int .i64 c.f3.f2, .string c.f3.f3.f0, .string c.f3.f3.f1, .string c.f3.f4.f0.f0, .string c.f3.f4.f0.f1, .string c.f3.f4.f0.f2, .int .i64 c.f3.f4.f1, .string c.f3.f4.f2, .string c.f4.f0.f0, .string c.f4.f0.f1, .string c.f4.f0.f2, .int .i64 c.f4.f1, .string c.f4.f2, .string c.f5.f0, .string c.f5.f1, .string c.f6, .string c.f7.f0, .string c.f7.f1, .string c.f7.f2, .slice A c.f8.length c0])), .agg #[.string m0, .string m1, .string m2]] w fun e w' => e = .returned (.bool true) ∧ Below w.heap.size w w' :=
  Hand.GenPass_go c A c0 ⟨m0, m1, m2⟩ w hC hc
set_option maxRecDepth 100000 in
theorem contract (H : Type) (enc : TypeId × Value → H) (W : World) (base : Nat) (args : Array Value) (ds gs : List (DataW H)) (before : List MemPlace)
    (hval0 : ∀ (j : Nat) t v, Try.f5.params[j]? = some t → args[j]? = some v → Value.okWide Try.prog W .any base t v)
    (hW : DataW.Whole enc Try.prog Try.f5.params.toList Rows.genPassSpec.vars false W args.toList ds gs before)
    (hsz0 : (DataW.weightsEach Try.prog (Try.f5.params.toList ++ Rows.genPassSpec.plain.varTypes Try.prog) (ds ++ gs)).all (· ≤ reachBytes) = true) (hL : laidMetH Try.prog Rows.genPassRow.laid W) (hSh : W.ShapedOpen Try.prog) :
    Calls Try.prog 5 args W fun e W' => ∃ v, e = .returned v ∧ Rows.genPassSpec.post enc Try.prog Try.f5 false true false false W args v W' := by
  have hsz := hsz0
  have hval := hval0
  have hW' := hW
  obtain ⟨p, q, hA0, hV, rfl, hfz, hnd⟩ := hW
  have hA : DataW.TrodAll enc Try.prog W 0 (fun _ => true) true Try.f5.params.toList args.toList ds p := hA0
  rw [Try.params5] at hA hval hsz
  obtain ⟨v0, vs0, d0, ds0, p0, q0, hargs, rfl, rfl, h0, r0⟩ := trodAll_cons hA
  obtain ⟨v1, vs1, d1, ds1, p1, q1, rfl, rfl, rfl, h1, r1⟩ := trodAll_cons r0
  obtain ⟨rfl, rfl, rfl⟩ := trodAll_nil r1
  obtain rfl : args = #[v0, v1] := by cases args; simp_all
  obtain ⟨rfl, rfl⟩ := trodVars_none hV
  have k0 := h0
  have lt0 : ∀ x ∈ p0, x.block < W.heap.size := by obtain ⟨m, hm⟩ := k0; exact DataW.trod_lt m _ _ _ hm
  obtain ⟨c, A, c0, rfl, hC, hc⟩ := Hand.Op.open_cons (fun n hn => of_decide_eq_true (List.all_eq_true.1 hsz n (DataW.weights_mem_each (j := 0) (t := 60) rfl rfl n hn))) (hval 0 60 v0 rfl rfl) h0
  have k1 := h1
  have lt1 : ∀ x ∈ p1, x.block < W.heap.size := by obtain ⟨m, hm⟩ := k1; exact DataW.trod_lt m _ _ _ hm
  obtain ⟨m0, m1, m2, rfl, _, _, _⟩ := Hand.Op.open_mref (fun n hn => of_decide_eq_true (List.all_eq_true.1 hsz n (DataW.weights_mem_each (j := 1) (t := 25) rfl rfl n hn))) (hval 1 25 v1 rfl rfl) h1
  clear hA0 hval0 hsz0 hsz
  refine (walkGenPass c A c0 m0 m1 m2 W hC hc).mono fun e W' ⟨he, bel⟩ => ?_
  subst he
  exact ⟨_, rfl, _, _, _, [], _, [], hW', trodAll_mk1 (shut_bool Try.underlying4 _), (trodAll_cons_mk (Below.trod laidOut (by kernel_rfl) (of_decide_eq_true (by kernel_rfl)) k0 bel lt0) (trodAll_cons_mk (Below.trod laidOut (by kernel_rfl) (of_decide_eq_true (by kernel_rfl)) k1 bel lt1) trodAll_mk0)), rfl, bel.frame _, fun h => by cases h⟩
/-- A WORLD FOR THE WITNESS: the settled one, what is listed holding what its initialiser lays. -/
noncomputable def laidWorld (os : Os) : World :=
  { World.holding Try.prog os ⟨#[], #[], []⟩ with heap := (World.holding Try.prog os ⟨#[], #[], []⟩).heap }
theorem laid_met (os : Os) : laidMetH Try.prog Rows.genPassRow.laid ((laidWorld os).forCall (fun _ _ => 0) ⟨#[], #[.agg (List.toArray ((.int .i64 0) :: (.int .i64 0) :: (.int .i64 0) :: (.string .empty) :: (.string .empty) :: (.string .empty) :: (.int .i64 0) :: (.string .empty) :: [.string .empty, .string .empty, .string .empty, .string .empty, .int .i64 0, .string .empty, .int .i64 0, .string .empty, .string .empty, .string .empty, .int .i64 0, .string .empty, .string .empty, .string .empty, .string .empty, .string .empty, .int .i64 0, .string .empty, .string .empty, .string .empty, .string .empty, .int .i64 0, .string .empty, .string .empty, .string .empty, .string .empty, .string .empty, .string .empty, .string .empty, .slice none 0 0])), .agg #[.string .empty, .string .empty, .string .empty]], []⟩).memory := laidMetH_nil _ _
theorem reads (os : Os) {H : Type} (enc : TypeId × Value → H) : ∃ places, DataW.whole enc Try.prog ((laidWorld os).forCall (fun _ _ => 0) ⟨#[], #[.agg (List.toArray ((.int .i64 0) :: (.int .i64 0) :: (.int .i64 0) :: (.string .empty) :: (.string .empty) :: (.string .empty) :: (.int .i64 0) :: (.string .empty) :: [.string .empty, .string .empty, .string .empty, .string .empty, .int .i64 0, .string .empty, .int .i64 0, .string .empty, .string .empty, .string .empty, .int .i64 0, .string .empty, .string .empty, .string .empty, .string .empty, .string .empty, .int .i64 0, .string .empty, .string .empty, .string .empty, .string .empty, .int .i64 0, .string .empty, .string .empty, .string .empty, .string .empty, .string .empty, .string .empty, .string .empty, .slice none 0 0])), .agg #[.string .empty, .string .empty, .string .empty]], []⟩).memory Try.f5.params.toList Rows.genPassSpec.vars false (#[.agg (List.toArray ((.int .i64 0) :: (.int .i64 0) :: (.int .i64 0) :: (.string .empty) :: (.string .empty) :: (.string .empty) :: (.int .i64 0) :: (.string .empty) :: [.string .empty, .string .empty, .string .empty, .string .empty, .int .i64 0, .string .empty, .int .i64 0, .string .empty, .string .empty, .string .empty, .int .i64 0, .string .empty, .string .empty, .string .empty, .string .empty, .string .empty, .int .i64 0, .string .empty, .string .empty, .string .empty, .string .empty, .int .i64 0, .string .empty, .string .empty, .string .empty, .string .empty, .string .empty, .string .empty, .string .empty, .slice none 0 0])), .agg #[.string .empty, .string .empty, .string .empty]] : Array Value).toList 8 = some ([.agg [.lit (.int .i64 0), .lit (.int .i64 0), .agg [.lit (.int .i64 0), .agg [.lit (.string []), .lit (.string []), .lit (.string [])], .lit (.int .i64 0), .agg [.lit (.string []), .lit (.string [])], .agg [.agg [.lit (.string []), .lit (.string []), .lit (.string [])], .lit (.int .i64 0), .lit (.string [])]], .agg [.lit (.int .i64 0), .agg [.lit (.string []), .lit (.string []), .lit (.string [])], .lit (.int .i64 0), .agg [.lit (.string []), .lit (.string [])], .agg [.agg [.lit (.string []), .lit (.string []), .lit (.string [])], .lit (.int .i64 0), .lit (.string [])]], .agg [.agg [.lit (.string []), .lit (.string []), .lit (.string [])], .lit (.int .i64 0), .lit (.string [])], .agg [.lit (.string []), .lit (.string [])], .lit (.string []), .agg [.lit (.string []), .lit (.string []), .lit (.string [])], .nil], .agg [.lit (.string []), .lit (.string []), .lit (.string [])]], [], places) :=
  ⟨[], by kernel_rfl⟩
set_option maxRecDepth 100000 in
theorem lifted (os : Os) (started : os.Started) (H : Type) (enc : TypeId × Value → H) (F : Stop.Interp) :
    ReturnsInHanded {} Try.checked os 5 .any ((OpenSpec.ofChange Rows.genPassSpec).preRow enc Try.prog Try.f5 Rows.genPassRow.domain false Rows.genPassRow.laid) (((OpenSpec.ofChange Rows.genPassSpec).at F).post enc Try.prog Try.f5 false true false false) := by
  obtain ⟨places, hx⟩ := reads os enc
  refine returnsInHanded_of_row (C := Try.checked) (s := (OpenSpec.ofChange Rows.genPassSpec)) own started (by kernel_rfl) Try.func5
    (witness_row_at (enc := enc) (C := Try.checked) false (laidWorld os) #[.agg (List.toArray ((.int .i64 0) :: (.int .i64 0) :: (.int .i64 0) :: (.string .empty) :: (.string .empty) :: (.string .empty) :: (.int .i64 0) :: (.string .empty) :: [.string .empty, .string .empty, .string .empty, .string .empty, .int .i64 0, .string .empty, .int .i64 0, .string .empty, .string .empty, .string .empty, .int .i64 0, .string .empty, .string .empty, .string .empty, .string .empty, .string .empty, .int .i64 0, .string .empty, .string .empty, .string .empty, .string .empty, .int .i64 0, .string .empty, .string .empty, .string .empty, .string .empty, .string .empty, .string .empty, .string .empty, .slice none 0 0])), .agg #[.string .empty, .string .empty, .string .empty]] rfl (by kernel_rfl) (by kernel_rfl) (by kernel_rfl)
      (OpenSpec.preRow_of_cond 8 hx (by kernel_rfl) (fun k hk => by cases hk) (by kernel_rfl) (laid_met os))) ?_
  intro W base args ds gs before hval hW _ hk hsz hL hSh _
  exact contract H enc W base args ds gs before hval hW hsz hL hSh
theorem c1 : Try.pinned.checked.prog.funcNamed Rows.genPassRow.func = some 5 := by kernel_rfl
theorem c3 : joinedFacts Try.pinned.checked.prog 5 Try.f5 (OpenSpec.ofChange Rows.genPassSpec).bare Rows.genPassRow = true := by
  show joinedFacts Try.prog 5 Try.f5 (OpenSpec.ofChange Rows.genPassSpec).bare Rows.genPassRow = true
  unfold joinedFacts
  rw [Hand.seat_mayEnter, Hand.seat_lifts, Hand.seat_make]
  kernel_rfl
theorem c4 : Try.f5.isInstance Try.pinned.checked.prog Rows.genPassRow.origin Rows.genPassRow.targs := of_decide_eq_true (by kernel_rfl)
theorem c5 : Try.f5.isWrapper Try.pinned.checked.prog Rows.genPassRow.wrapper Rows.genPassRow.mainSum := by unfold Func.isWrapper; first | (rw [if_pos (by decide +kernel)]; kernel_rfl) | (rw [if_neg (by decide +kernel)]; exact ⟨rfl, rfl⟩)
theorem said : Rows.GenPassSaid :=
  OpenClaim.holds_of_cond 5 Try.f5 rfl rfl rfl rfl rfl rfl rfl ⟨rfl, rfl, rfl, rfl, rfl⟩ rfl rfl rfl rfl rfl c1 Try.func5 c3 c4 c5
    (fun os started H enc _ F => by rw [OpenClaim.pre_eq_preRow]; exact lifted os started H enc F)
#print axioms said
end Go.Proofs.Ytfplcohjnlbfjaa.genPass
namespace Go.Proofs.Ytfplcohjnlbfjaa
/-- The row, under a short name, for the claim. -/
theorem genPass_holds : Rows.GenPassSaid := genPass.said
end Go.Proofs.Ytfplcohjnlbfjaa
