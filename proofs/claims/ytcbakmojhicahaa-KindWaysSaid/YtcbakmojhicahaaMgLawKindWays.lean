/- Renamed, and renamed back, a descriptor is as it was: for every text and pairs the law KindWays holds. No condition but those that the row itself states. -/
-- Written by this session's program rowgen.py, not by hand.
import Derived.Test.YtcbakmojhicahaaRows
import Derived.Test.YtcbakmojhicahaaMgKs1
import Derived.WalkKit
import Derived.ProofKit
import Derived.OpenShut
import Derived.ShutString
import Derived.ChangeOld
import Derived.Below
import Derived.SizedLaws
import Derived.Deep.DeepHandedRow
import Derived.Lib.LaidTab
import Derived.Test.YtcbakmojhicahaaWSized
import Derived.Test.YtcbakmojhicahaaMgKindWays0
namespace Go.Proofs.Ytcbakmojhicahaa.kindWays
open Go.ChangeShapes Go.WideShapes Go.ChangeAt Go.RowKit
open Go.ChangeMaps (open_string shut_string)
set_option linter.unusedVariables false
theorem own : ownKnob Try.prog.godebug = none := by kernel_rfl
theorem laidOut : laidOutB Try.prog = true := by kernel_rfl
def IsRow (k : IntKind) (w : World) (a : Option Addr) (len cap : Nat) (zs : List Int) : Prop :=
  (a = none ∧ len = 0 ∧ cap = 0 ∧ zs = []) ∨
  ∃ x, a = some x ∧ len ≤ cap ∧ cap ≤ maxLen ∧ zs.length = cap ∧ (∀ i, i < zs.length → w.cell? (x.add i) = some (.int k (zs.getD i 0))) ∧ ∀ n ∈ zs, (Lit.int k n).wf = true
theorem walkKindWays (a0 : ByteArray) (A1 : Option Addr) (c1 : Nat) (l1 : List Hand.S78) (w : World) (w0 : a0.size ≤ 140737488351232) (hC1 : Go.Proofs.YtcbakmojhicahaaW.PrintWords.Kd.C Hand.k78 w A1 l1.length l1) (hcp1 : l1.length ≤ c1) (hm1 : l1.length ≤ 140737488351232) (hs1 : ∀ x ∈ l1, x.f0.size ≤ 140737488351232 ∧ x.f1.size ≤ 140737488351232) (hG : Hand.MaxL w) :
    Calls Try.prog 10 #[.string a0, .slice A1 l1.length c1] w fun e w' => e = .returned (.bool true) ∧ Below w.heap.size w w' := by
  have hl : l1.length ≤ 4611686018427387903 := by omega
  obtain ⟨k, hk⟩ := Pure.KindWays a0 l1 hl (fun x hx => by have := hs1 x hx; omega)
  exact PKindWays.secateurlaw06_KindWays.calls k a0 A1 c1 l1 true w hC1 hcp1 hG hk
theorem tabMaxL {W : World} (hSh : W.ShapedOpen Try.prog) : Hand.MaxL W := Try.laysM145.s1_3 W hSh
set_option maxRecDepth 100000 in
theorem contract (H : Type) (enc : TypeId × Value → H) (W : World) (base : Nat) (args : Array Value) (ds gs : List (DataW H)) (before : List MemPlace)
    (hval0 : ∀ (j : Nat) t v, Try.f10.params[j]? = some t → args[j]? = some v → Value.okWide Try.prog W .any base t v)
    (hW : DataW.Whole enc Try.prog Try.f10.params.toList Rows.kindWaysSpec.vars false W args.toList ds gs before)
    (hsz0 : (DataW.weightsEach Try.prog (Try.f10.params.toList ++ Rows.kindWaysSpec.plain.varTypes Try.prog) (ds ++ gs)).all (· ≤ reachBytes) = true) (hL : laidMetH Try.prog Rows.kindWaysRow.laid W) (hSh : W.ShapedOpen Try.prog) :
    Calls Try.prog 10 args W fun e W' => ∃ v, e = .returned v ∧ Rows.kindWaysSpec.post enc Try.prog Try.f10 false true false false W args v W' := by
  have hsz := hsz0
  have hval := hval0
  have hW' := hW
  obtain ⟨p, q, hA0, hV, rfl, hfz, hnd⟩ := hW
  have hA : DataW.TrodAll enc Try.prog W 0 (fun _ => true) true Try.f10.params.toList args.toList ds p := hA0
  rw [Try.params10] at hA hval hsz
  obtain ⟨v0, vs0, d0, ds0, p0, q0, hargs, rfl, rfl, h0, r0⟩ := trodAll_cons hA
  obtain ⟨v1, vs1, d1, ds1, p1, q1, rfl, rfl, rfl, h1, r1⟩ := trodAll_cons r0
  obtain ⟨rfl, rfl, rfl⟩ := trodAll_nil r1
  obtain rfl : args = #[v0, v1] := by cases args; simp_all
  obtain ⟨rfl, rfl⟩ := trodVars_none hV
  obtain ⟨a0, rfl, rfl, rfl, ys0⟩ := open_string Try.underlying9 (hval 0 9 v0 rfl rfl) h0
  have w0 : a0.size ≤ 140737488351232 := by
    have z := sized_string hsz (j := 0) (t := 9) rfl rfl
    rw [Array.length_toList] at z
    exact z
  have k1 := h1
  have lt1 : ∀ x ∈ p1, x.block < W.heap.size := by obtain ⟨m, hm⟩ := k1; exact DataW.trod_lt m _ _ _ hm
  obtain ⟨A1, c1, l1, rfl, hcp1, hC1, hm1, hs1⟩ := Hand.open_rows2 Hand.k78 (fun x => x.f0.size ≤ 140737488351232 ∧ x.f1.size ≤ 140737488351232) rfl Try.underlying68 (by kernel_rfl) (of_decide_eq_true (by kernel_rfl)) (fun n cs x h => Hand.mk_pair Try.underlying78 (by kernel_rfl) rfl rfl (by kernel_rfl) (by kernel_rfl) (by kernel_rfl) (by kernel_rfl) n cs x h) (fun n hn => of_decide_eq_true (List.all_eq_true.1 hsz n (DataW.weights_mem_each (j := 1) (t := 68) rfl rfl n hn))) (hval 1 68 v1 rfl rfl) h1
  clear hA0 hval0 hsz0 hsz
  refine (walkKindWays a0 A1 c1 l1 W w0 hC1 hcp1 hm1 hs1 (tabMaxL hSh)).mono fun e W' ⟨he, bel⟩ => ?_
  subst he
  exact ⟨_, rfl, _, _, _, [], _, [], hW', trodAll_mk1 (shut_bool Try.underlying4 _), (trodAll_cons_mk (shut_string Try.underlying9 ys0) (trodAll_cons_mk (Below.trod laidOut (by kernel_rfl) (of_decide_eq_true (by kernel_rfl)) k1 bel lt1) trodAll_mk0)), rfl, bel.frame _, fun h => by cases h⟩
/-- A WORLD FOR THE WITNESS: the settled one, what is listed holding what its initialiser lays. -/
noncomputable def laidWorld (os : Os) : World :=
  { World.holding Try.prog os ⟨#[], #[], []⟩ with heap := (World.holding Try.prog os ⟨#[], #[], []⟩).heap }
theorem laid_met (os : Os) : laidMetH Try.prog Rows.kindWaysRow.laid ((laidWorld os).forCall (fun _ _ => 0) ⟨#[], #[.string .empty, .slice none 0 0], []⟩).memory := laidMetH_nil _ _
theorem reads (os : Os) {H : Type} (enc : TypeId × Value → H) : ∃ places, DataW.whole enc Try.prog ((laidWorld os).forCall (fun _ _ => 0) ⟨#[], #[.string .empty, .slice none 0 0], []⟩).memory Try.f10.params.toList Rows.kindWaysSpec.vars false (#[.string .empty, .slice none 0 0] : Array Value).toList 8 = some ([.lit (.string []), .nil], [], places) :=
  ⟨[], by kernel_rfl⟩
set_option maxRecDepth 100000 in
theorem lifted (os : Os) (started : os.Started) (H : Type) (enc : TypeId × Value → H) (F : Stop.Interp) :
    ReturnsInHanded {} Try.checked os 10 .any ((OpenSpec.ofChange Rows.kindWaysSpec).preRow enc Try.prog Try.f10 Rows.kindWaysRow.domain false Rows.kindWaysRow.laid) (((OpenSpec.ofChange Rows.kindWaysSpec).at F).post enc Try.prog Try.f10 false true false false) := by
  obtain ⟨places, hx⟩ := reads os enc
  refine returnsInHanded_of_row (C := Try.checked) (s := (OpenSpec.ofChange Rows.kindWaysSpec)) own started (by kernel_rfl) Try.func10
    (witness_row_at (enc := enc) (C := Try.checked) false (laidWorld os) #[.string .empty, .slice none 0 0] rfl (by kernel_rfl) (by kernel_rfl) (by kernel_rfl)
      (OpenSpec.preRow_of_cond 8 hx (by kernel_rfl) (fun k hk => by cases hk) (by kernel_rfl) (laid_met os))) ?_
  intro W base args ds gs before hval hW _ hk hsz hL hSh _
  exact contract H enc W base args ds gs before hval hW hsz hL hSh
theorem c1 : Try.pinned.checked.prog.funcNamed Rows.kindWaysRow.func = some 10 := by kernel_rfl
theorem c3 : joinedFacts Try.pinned.checked.prog 10 Try.f10 (OpenSpec.ofChange Rows.kindWaysSpec).bare Rows.kindWaysRow = true := by
  show joinedFacts Try.prog 10 Try.f10 (OpenSpec.ofChange Rows.kindWaysSpec).bare Rows.kindWaysRow = true
  unfold joinedFacts
  rw [Hand.seat_mayEnter, Hand.seat_lifts, Hand.seat_make]
  kernel_rfl
theorem c4 : Try.f10.isInstance Try.pinned.checked.prog Rows.kindWaysRow.origin Rows.kindWaysRow.targs := of_decide_eq_true (by kernel_rfl)
theorem c5 : Try.f10.isWrapper Try.pinned.checked.prog Rows.kindWaysRow.wrapper Rows.kindWaysRow.mainSum := by unfold Func.isWrapper; first | (rw [if_pos (by decide +kernel)]; kernel_rfl) | (rw [if_neg (by decide +kernel)]; exact ⟨rfl, rfl⟩)
theorem said : Rows.KindWaysSaid :=
  OpenClaim.holds_of_cond 10 Try.f10 rfl rfl rfl rfl rfl rfl rfl ⟨rfl, rfl, rfl, rfl, rfl⟩ rfl rfl rfl rfl rfl c1 Try.func10 c3 c4 c5
    (fun os started H enc _ F => by rw [OpenClaim.pre_eq_preRow]; exact lifted os started H enc F)
#print axioms said
end Go.Proofs.Ytcbakmojhicahaa.kindWays
namespace Go.Proofs.Ytcbakmojhicahaa
/-- The row, under a short name, for the claim. -/
theorem kindWays_holds : Rows.KindWaysSaid := kindWays.said
end Go.Proofs.Ytcbakmojhicahaa
