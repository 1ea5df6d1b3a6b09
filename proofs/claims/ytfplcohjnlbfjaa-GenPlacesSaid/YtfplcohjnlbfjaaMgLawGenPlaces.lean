/- The places of gen (a register, an answer, a static field, a field, an element) are those of the document, for every method, field and site; and what live asks of a fixed program is so. -/
-- Written by this session's program rowgen.py, not by hand.
import Derived.Test.YtfplcohjnlbfjaaRows
import Derived.Test.YtfplcohjnlbfjaaMgGenPlaces1
import Derived.WalkKit
import Derived.ProofKit
import Derived.OpenShut
import Derived.ShutString
import Derived.ChangeOld
import Derived.Below
import Derived.SizedLaws
import Derived.Deep.DeepHandedRow
import Derived.Lib.LaidTab
import Derived.Test.YtfplcohjnlbfjaaMgGenPlaces0
import Derived.Test.YtfplcohjnlbfjaaMgGenPlaces4
namespace Go.Proofs.Ytfplcohjnlbfjaa.genPlaces
open Go.ChangeShapes Go.WideShapes Go.ChangeAt Go.RowKit
open Go.ChangeMaps (open_string shut_string)
set_option linter.unusedVariables false
theorem own : ownKnob Try.prog.godebug = none := by kernel_rfl
theorem laidOut : laidOutB Try.prog = true := by kernel_rfl
def IsRow (k : IntKind) (w : World) (a : Option Addr) (len cap : Nat) (zs : List Int) : Prop :=
  (a = none ∧ len = 0 ∧ cap = 0 ∧ zs = []) ∨
  ∃ x, a = some x ∧ len ≤ cap ∧ cap ≤ maxLen ∧ zs.length = cap ∧ (∀ i, i < zs.length → w.cell? (x.add i) = some (.int k (zs.getD i 0))) ∧ ∀ n ∈ zs, (Lit.int k n).wf = true
theorem walkGenPlaces (m0 m1 m2 f0 f1 s0 s1 s2 : ByteArray) (s3 : Int) (s4 : ByteArray) (w : World) :
    Calls Try.prog 4 #[.agg #[.string m0, .string m1, .string m2], .agg #[.string f0, .string f1], .agg #[.string s0, .string s1, .string s2, .int .i64 s3, .string s4]] w fun e w' => e = .returned (.bool true) ∧ Below w.heap.size w w' :=
  PGenPlaces.secateurlaw25_GenPlaces.calls m0 m1 m2 f0 f1 s0 s1 s2 s3 s4 true w (Pure.genPlaces m0 m1 m2 f0 f1 s0 s1 s2 s3 s4) rfl
set_option maxRecDepth 100000 in
theorem contract (H : Type) (enc : TypeId × Value → H) (W : World) (base : Nat) (args : Array Value) (ds gs : List (DataW H)) (before : List MemPlace)
    (hval0 : ∀ (j : Nat) t v, Try.f4.params[j]? = some t → args[j]? = some v → Value.okWide Try.prog W .any base t v)
    (hW : DataW.Whole enc Try.prog Try.f4.params.toList Rows.genPlacesSpec.vars false W args.toList ds gs before)
    (hsz0 : (DataW.weightsEach Try.prog (Try.f4.params.toList ++ Rows.genPlacesSpec.plain.varTypes Try.prog) (ds ++ gs)).all (· ≤ reachBytes) = true) (hL : laidMetH Try.prog Rows.genPlacesRow.laid W) (hSh : W.ShapedOpen Try.prog) :
    Calls Try.prog 4 args W fun e W' => ∃ v, e = .returned v ∧ Rows.genPlacesSpec.post enc Try.prog Try.f4 false true false false W args v W' := by
  have hsz := hsz0
  have hval := hval0
  have hW' := hW
  obtain ⟨p, q, hA0, hV, rfl, hfz, hnd⟩ := hW
  have hA : DataW.TrodAll enc Try.prog W 0 (fun _ => true) true Try.f4.params.toList args.toList ds p := hA0
  rw [Try.params4] at hA hval hsz
  obtain ⟨v0, vs0, d0, ds0, p0, q0, hargs, rfl, rfl, h0, r0⟩ := trodAll_cons hA
  obtain ⟨v1, vs1, d1, ds1, p1, q1, rfl, rfl, rfl, h1, r1⟩ := trodAll_cons r0
  obtain ⟨v2, vs2, d2, ds2, p2, q2, rfl, rfl, rfl, h2, r2⟩ := trodAll_cons r1
  obtain ⟨rfl, rfl, rfl⟩ := trodAll_nil r2
  obtain rfl : args = #[v0, v1, v2] := by cases args; simp_all
  obtain ⟨rfl, rfl⟩ := trodVars_none hV
  have k0 := h0
  have lt0 : ∀ x ∈ p0, x.block < W.heap.size := by obtain ⟨m, hm⟩ := k0; exact DataW.trod_lt m _ _ _ hm
  obtain ⟨m0, m1, m2, rfl, _, _, _⟩ := Hand.Op.open_mref (fun n hn => of_decide_eq_true (List.all_eq_true.1 hsz n (DataW.weights_mem_each (j := 0) (t := 25) rfl rfl n hn))) (hval 0 25 v0 rfl rfl) h0
  have k1 := h1
  have lt1 : ∀ x ∈ p1, x.block < W.heap.size := by obtain ⟨m, hm⟩ := k1; exact DataW.trod_lt m _ _ _ hm
  obtain ⟨f0, f1, rfl, _, _⟩ := Hand.Op.open_fref (fun n hn => of_decide_eq_true (List.all_eq_true.1 hsz n (DataW.weights_mem_each (j := 1) (t := 44) rfl rfl n hn))) (hval 1 44 v1 rfl rfl) h1
  have k2 := h2
  have lt2 : ∀ x ∈ p2, x.block < W.heap.size := by obtain ⟨m, hm⟩ := k2; exact DataW.trod_lt m _ _ _ hm
  obtain ⟨s0, s1, s2, s3, s4, rfl, _, _, _⟩ := Hand.Op.open_site (fun n hn => of_decide_eq_true (List.all_eq_true.1 hsz n (DataW.weights_mem_each (j := 2) (t := 46) rfl rfl n hn))) (hval 2 46 v2 rfl rfl) h2
  clear hA0 hval0 hsz0 hsz
  refine (walkGenPlaces m0 m1 m2 f0 f1 s0 s1 s2 s3 s4 W ).mono fun e W' ⟨he, bel⟩ => ?_
  subst he
  exact ⟨_, rfl, _, _, _, [], _, [], hW', trodAll_mk1 (shut_bool Try.underlying4 _), (trodAll_cons_mk (Below.trod laidOut (by kernel_rfl) (of_decide_eq_true (by kernel_rfl)) k0 bel lt0) (trodAll_cons_mk (Below.trod laidOut (by kernel_rfl) (of_decide_eq_true (by kernel_rfl)) k1 bel lt1) (trodAll_cons_mk (Below.trod laidOut (by kernel_rfl) (of_decide_eq_true (by kernel_rfl)) k2 bel lt2) trodAll_mk0))), rfl, bel.frame _, fun h => by cases h⟩
/-- A WORLD FOR THE WITNESS: the settled one, what is listed holding what its initialiser lays. -/
noncomputable def laidWorld (os : Os) : World :=
  { World.holding Try.prog os ⟨#[], #[], []⟩ with heap := (World.holding Try.prog os ⟨#[], #[], []⟩).heap }
theorem laid_met (os : Os) : laidMetH Try.prog Rows.genPlacesRow.laid ((laidWorld os).forCall (fun _ _ => 0) ⟨#[], #[.agg #[.string .empty, .string .empty, .string .empty], .agg #[.string .empty, .string .empty], .agg #[.string .empty, .string .empty, .string .empty, .int .i64 0, .string .empty]], []⟩).memory := laidMetH_nil _ _
theorem reads (os : Os) {H : Type} (enc : TypeId × Value → H) : ∃ places, DataW.whole enc Try.prog ((laidWorld os).forCall (fun _ _ => 0) ⟨#[], #[.agg #[.string .empty, .string .empty, .string .empty], .agg #[.string .empty, .string .empty], .agg #[.string .empty, .string .empty, .string .empty, .int .i64 0, .string .empty]], []⟩).memory Try.f4.params.toList Rows.genPlacesSpec.vars false (#[.agg #[.string .empty, .string .empty, .string .empty], .agg #[.string .empty, .string .empty], .agg #[.string .empty, .string .empty, .string .empty, .int .i64 0, .string .empty]] : Array Value).toList 8 = some ([.agg [.lit (.string []), .lit (.string []), .lit (.string [])], .agg [.lit (.string []), .lit (.string [])], .agg [.agg [.lit (.string []), .lit (.string []), .lit (.string [])], .lit (.int .i64 0), .lit (.string [])]], [], places) :=
  ⟨[], by kernel_rfl⟩
set_option maxRecDepth 100000 in
theorem lifted (os : Os) (started : os.Started) (H : Type) (enc : TypeId × Value → H) (F : Stop.Interp) :
    ReturnsInHanded {} Try.checked os 4 .any ((OpenSpec.ofChange Rows.genPlacesSpec).preRow enc Try.prog Try.f4 Rows.genPlacesRow.domain false Rows.genPlacesRow.laid) (((OpenSpec.ofChange Rows.genPlacesSpec).at F).post enc Try.prog Try.f4 false true false false) := by
  obtain ⟨places, hx⟩ := reads os enc
  refine returnsInHanded_of_row (C := Try.checked) (s := (OpenSpec.ofChange Rows.genPlacesSpec)) own started (by kernel_rfl) Try.func4
    (witness_row_at (enc := enc) (C := Try.checked) false (laidWorld os) #[.agg #[.string .empty, .string .empty, .string .empty], .agg #[.string .empty, .string .empty], .agg #[.string .empty, .string .empty, .string .empty, .int .i64 0, .string .empty]] rfl (by kernel_rfl) (by kernel_rfl) (by kernel_rfl)
      (OpenSpec.preRow_of_cond 8 hx (by kernel_rfl) (fun k hk => by cases hk) (by kernel_rfl) (laid_met os))) ?_
  intro W base args ds gs before hval hW _ hk hsz hL hSh _
  exact contract H enc W base args ds gs before hval hW hsz hL hSh
theorem c1 : Try.pinned.checked.prog.funcNamed Rows.genPlacesRow.func = some 4 := by kernel_rfl
theorem c3 : joinedFacts Try.pinned.checked.prog 4 Try.f4 (OpenSpec.ofChange Rows.genPlacesSpec).bare Rows.genPlacesRow = true := by
  show joinedFacts Try.prog 4 Try.f4 (OpenSpec.ofChange Rows.genPlacesSpec).bare Rows.genPlacesRow = true
  unfold joinedFacts
  rw [Hand.seat_mayEnter, Hand.seat_lifts, Hand.seat_make]
  kernel_rfl
theorem c4 : Try.f4.isInstance Try.pinned.checked.prog Rows.genPlacesRow.origin Rows.genPlacesRow.targs := of_decide_eq_true (by kernel_rfl)
theorem c5 : Try.f4.isWrapper Try.pinned.checked.prog Rows.genPlacesRow.wrapper Rows.genPlacesRow.mainSum := by unfold Func.isWrapper; first | (rw [if_pos (by decide +kernel)]; kernel_rfl) | (rw [if_neg (by decide +kernel)]; exact ⟨rfl, rfl⟩)
theorem said : Rows.GenPlacesSaid :=
  OpenClaim.holds_of_cond 4 Try.f4 rfl rfl rfl rfl rfl rfl rfl ⟨rfl, rfl, rfl, rfl, rfl⟩ rfl rfl rfl rfl rfl c1 Try.func4 c3 c4 c5
    (fun os started H enc _ F => by rw [OpenClaim.pre_eq_preRow]; exact lifted os started H enc F)
#print axioms said
end Go.Proofs.Ytfplcohjnlbfjaa.genPlaces
namespace Go.Proofs.Ytfplcohjnlbfjaa
/-- The row, under a short name, for the claim. -/
theorem genPlaces_holds : Rows.GenPlacesSaid := genPlaces.said
end Go.Proofs.Ytfplcohjnlbfjaa
