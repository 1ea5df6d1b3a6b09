/- For every program and three bytes, the statement TopNearest of the given program returns true and panics never: the code of an object for a method is that of the first class, from its own one up, that declares it. No condition beyond what the row states. -/
-- Written by this session's program rowgen.py, not by hand.
import Derived.Test.YtfplcohjnlbfjaaRows
import Derived.Test.YtfplcohjnlbfjaaMgTopNearest1
import Derived.WalkKit
import Derived.ProofKit
import Derived.OpenShut
import Derived.ShutString
import Derived.ChangeOld
import Derived.Below
import Derived.SizedLaws
import Derived.Deep.DeepHandedRow
import Derived.Lib.LaidTab
import Derived.Test.YtfplcohjnlbfjaaMgTopNearest0
import Derived.Test.YtfplcohjnlbfjaaMgTopNearest3
namespace Go.Proofs.Ytfplcohjnlbfjaa.topNearest
open Go.ChangeShapes Go.WideShapes Go.ChangeAt Go.RowKit
open Go.ChangeMaps (open_string shut_string)
set_option linter.unusedVariables false
theorem own : ownKnob Try.prog.godebug = none := by kernel_rfl
theorem laidOut : laidOutB Try.prog = true := by kernel_rfl
def IsRow (k : IntKind) (w : World) (a : Option Addr) (len cap : Nat) (zs : List Int) : Prop :=
  (a = none ∧ len = 0 ∧ cap = 0 ∧ zs = []) ∨
  ∃ x, a = some x ∧ len ≤ cap ∧ cap ≤ maxLen ∧ zs.length = cap ∧ (∀ i, i < zs.length → w.cell? (x.add i) = some (.int k (zs.getD i 0))) ∧ ∀ n ∈ zs, (Lit.int k n).wf = true
set_option maxRecDepth 100000 in
theorem contract (H : Type) (enc : TypeId × Value → H) (W : World) (base : Nat) (args : Array Value) (ds gs : List (DataW H)) (before : List MemPlace)
    (hval0 : ∀ (j : Nat) t v, Try.f3.params[j]? = some t → args[j]? = some v → Value.okWide Try.prog W .any base t v)
    (hW : DataW.Whole enc Try.prog Try.f3.params.toList Rows.topNearestSpec.vars false W args.toList ds gs before)
    (hsz0 : (DataW.weightsEach Try.prog (Try.f3.params.toList ++ Rows.topNearestSpec.plain.varTypes Try.prog) (ds ++ gs)).all (· ≤ reachBytes) = true) (hL : laidMetH Try.prog Rows.topNearestRow.laid W) (hSh : W.ShapedOpen Try.prog) :
    Calls Try.prog 3 args W fun e W' => ∃ v, e = .returned v ∧ Rows.topNearestSpec.post enc Try.prog Try.f3 false true false false W args v W' := by
  have hsz := hsz0
  have hval := hval0
  have hW' := hW
  obtain ⟨p, q, hA0, hV, rfl, hfz, hnd⟩ := hW
  have hA : DataW.TrodAll enc Try.prog W 0 (fun _ => true) true Try.f3.params.toList args.toList ds p := hA0
  rw [Try.params3] at hA hval hsz
  obtain ⟨v0, vs0, d0, ds0, p0, q0, hargs, rfl, rfl, h0, r0⟩ := trodAll_cons hA
  obtain ⟨v1, vs1, d1, ds1, p1, q1, rfl, rfl, rfl, h1, r1⟩ := trodAll_cons r0
  obtain ⟨rfl, rfl, rfl⟩ := trodAll_nil r1
  obtain rfl : args = #[v0, v1] := by cases args; simp_all
  obtain ⟨rfl, rfl⟩ := trodVars_none hV
  have k0 := h0
  have lt0 : ∀ x ∈ p0, x.block < W.heap.size := by obtain ⟨m, hm⟩ := k0; exact DataW.trod_lt m _ _ _ hm
  obtain ⟨A0, c0, l0, A1, c1, l1, a2, a3, a4, rfl, hC0, hc0, hC1, hc1, _, hQ0, _⟩ := Hand.Op.open_program (fun n hn => of_decide_eq_true (List.all_eq_true.1 hsz n (DataW.weights_mem_each (j := 0) (t := 27) rfl rfl n hn))) (hval 0 27 v0 rfl rfl) h0
  have k1 := h1
  have lt1 : ∀ x ∈ p1, x.block < W.heap.size := by obtain ⟨m, hm⟩ := k1; exact DataW.trod_lt m _ _ _ hm
  obtain ⟨b0, b1, b2, rfl, z0, z1, z2⟩ := Hand.open_u8s3 Try.underlying28 Try.underlying5 (by kernel_rfl) (by kernel_rfl) (hval 1 28 v1 rfl rfl) h1
  clear hA0 hval0 hsz0 hsz
  refine (Hand.TopNearest_go A0 c0 l0 A1 c1 l1 a2 a3 a4 b0 b1 b2 W hC0 hc0 hC1 hc1 (fun x hx => Nat.le_trans (hQ0 x hx).1 (by decide)) z0 z1 z2).mono fun e W' ⟨he, bel⟩ => ?_
  subst he
  exact ⟨_, rfl, _, _, _, [], _, [], hW', trodAll_mk1 (shut_bool Try.underlying4 _), (trodAll_cons_mk (Below.trod laidOut (by kernel_rfl) (of_decide_eq_true (by kernel_rfl)) k0 bel lt0) (trodAll_cons_mk (Below.trod laidOut (by kernel_rfl) (of_decide_eq_true (by kernel_rfl)) k1 bel lt1) trodAll_mk0)), rfl, bel.frame _, fun h => by cases h⟩
/-- A WORLD FOR THE WITNESS: the settled one, what is listed holding what its initialiser lays. -/
noncomputable def laidWorld (os : Os) : World :=
  { World.holding Try.prog os ⟨#[], #[], []⟩ with heap := (World.holding Try.prog os ⟨#[], #[], []⟩).heap }
theorem laid_met (os : Os) : laidMetH Try.prog Rows.topNearestRow.laid ((laidWorld os).forCall (fun _ _ => 0) ⟨#[], #[.agg #[.slice none 0 0, .slice none 0 0, .string .empty, .string .empty, .string .empty], .agg #[.int .u8 0, .int .u8 0, .int .u8 0]], []⟩).memory := laidMetH_nil _ _
theorem reads (os : Os) {H : Type} (enc : TypeId × Value → H) : ∃ places, DataW.whole enc Try.prog ((laidWorld os).forCall (fun _ _ => 0) ⟨#[], #[.agg #[.slice none 0 0, .slice none 0 0, .string .empty, .string .empty, .string .empty], .agg #[.int .u8 0, .int .u8 0, .int .u8 0]], []⟩).memory Try.f3.params.toList Rows.topNearestSpec.vars false (#[.agg #[.slice none 0 0, .slice none 0 0, .string .empty, .string .empty, .string .empty], .agg #[.int .u8 0, .int .u8 0, .int .u8 0]] : Array Value).toList 8 = some ([.agg [.nil, .nil, .agg [.lit (.string []), .lit (.string []), .lit (.string [])]], .agg [.lit (.int .u8 0), .lit (.int .u8 0), .lit (.int .u8 0)]], [], places) :=
  ⟨[], by kernel_rfl⟩
set_option maxRecDepth 100000 in
theorem lifted (os : Os) (started : os.Started) (H : Type) (enc : TypeId × Value → H) (F : Stop.Interp) :
    ReturnsInHanded {} Try.checked os 3 .any ((OpenSpec.ofChange Rows.topNearestSpec).preRow enc Try.prog Try.f3 Rows.topNearestRow.domain false Rows.topNearestRow.laid) (((OpenSpec.ofChange Rows.topNearestSpec).at F).post enc Try.prog Try.f3 false true false false) := by
  obtain ⟨places, hx⟩ := reads os enc
  refine returnsInHanded_of_row (C := Try.checked) (s := (OpenSpec.ofChange Rows.topNearestSpec)) own started (by kernel_rfl) Try.func3
    (witness_row_at (enc := enc) (C := Try.checked) false (laidWorld os) #[.agg #[.slice none 0 0, .slice none 0 0, .string .empty, .string .empty, .string .empty], .agg #[.int .u8 0, .int .u8 0, .int .u8 0]] rfl (by kernel_rfl) (by kernel_rfl) (by kernel_rfl)
      (OpenSpec.preRow_of_cond 8 hx (by kernel_rfl) (fun k hk => by cases hk) (by kernel_rfl) (laid_met os))) ?_
  intro W base args ds gs before hval hW _ hk hsz hL hSh _
  exact contract H enc W base args ds gs before hval hW hsz hL hSh
theorem c1 : Try.pinned.checked.prog.funcNamed Rows.topNearestRow.func = some 3 := by kernel_rfl
theorem c3 : joinedFacts Try.pinned.checked.prog 3 Try.f3 (OpenSpec.ofChange Rows.topNearestSpec).bare Rows.topNearestRow = true := by
  show joinedFacts Try.prog 3 Try.f3 (OpenSpec.ofChange Rows.topNearestSpec).bare Rows.topNearestRow = true
  unfold joinedFacts
  rw [Hand.seat_mayEnter, Hand.seat_lifts, Hand.seat_make]
  kernel_rfl
theorem c4 : Try.f3.isInstance Try.pinned.checked.prog Rows.topNearestRow.origin Rows.topNearestRow.targs := of_decide_eq_true (by kernel_rfl)
theorem c5 : Try.f3.isWrapper Try.pinned.checked.prog Rows.topNearestRow.wrapper Rows.topNearestRow.mainSum := by unfold Func.isWrapper; first | (rw [if_pos (by decide +kernel)]; kernel_rfl) | (rw [if_neg (by decide +kernel)]; exact ⟨rfl, rfl⟩)
theorem said : Rows.TopNearestSaid :=
  OpenClaim.holds_of_cond 3 Try.f3 rfl rfl rfl rfl rfl rfl rfl ⟨rfl, rfl, rfl, rfl, rfl⟩ rfl rfl rfl rfl rfl c1 Try.func3 c3 c4 c5
    (fun os started H enc _ F => by rw [OpenClaim.pre_eq_preRow]; exact lifted os started H enc F)
#print axioms said
end Go.Proofs.Ytfplcohjnlbfjaa.topNearest
namespace Go.Proofs.Ytfplcohjnlbfjaa
/-- The row, under a short name, for the claim. -/
theorem topNearest_holds : Rows.TopNearestSaid := topNearest.said
end Go.Proofs.Ytfplcohjnlbfjaa
