/- Each constraint that gen.Of asks for a method of a program that can be is of a place of the method's code, in order, and names registers of the method alone: for every program and two bytes, the statement GenWithin returns true; no condition. -/
import Derived.Test.YtfplcohjnlbfjaaMgGenWithin1
import Derived.Test.YtfplcohjnlbfjaaRows
import Derived.WalkKit
import Derived.ProofKit
import Derived.OpenShut
import Derived.ShutString
import Derived.ChangeOld
import Derived.Below
import Derived.SizedLaws
import Derived.Deep.DeepHandedRow
import Derived.Lib.LaidTab
import Derived.Test.YtfplcohjnlbfjaaMgGenWithin0
import Derived.Test.YtfplcohjnlbfjaaMgGenWithin6
/- Each constraint that gen.Of asks for a method of a program that can be is of a place of the method's code, in order, and names registers of the method alone: for every program and two bytes, the statement GenWithin returns true; no condition. -/
namespace Go.Proofs.Ytfplcohjnlbfjaa.genWithin
open Go.ChangeShapes Go.WideShapes Go.ChangeAt Go.RowKit
open Go.ChangeMaps (open_string shut_string)
set_option linter.unusedVariables false
theorem own : ownKnob Try.prog.godebug = none := by kernel_rfl
theorem laidOut : laidOutB Try.prog = true := by kernel_rfl
def IsRow (k : IntKind) (w : World) (a : Option Addr) (len cap : Nat) (zs : List Int) : Prop :=
 (a = none ∧ len = 0 ∧ cap = 0 ∧ zs = []) ∨
 ∃ x,a = some x ∧ len ≤ cap ∧ cap ≤ maxLen ∧ zs.length = cap ∧ (∀ i,i < zs.length → w.cell? (x.add i) = some (.int k (zs.getD i 0))) ∧ ∀ n ∈ zs,(Lit.int k n).wf = true
open Go.Proofs.Ytfplcohjnlbfjaa.Hand in
theorem walkGenWithin (A0 : Option Addr) (c0 : Nat) (l0 : List S33) (A1 : Option Addr) (c1 : Nat) (l1 : List ByteArray) (a2 a3 a4 : ByteArray) (px py : Int) (w : World) (hC0 : Go.Proofs.YtfplcohjnlbfjaaW.PrintWords.Kd.C k33 w A0 l0.length l0) (hc0 : l0.length ≤ c0) (hC1 : Go.Proofs.YtfplcohjnlbfjaaW.PrintWords.Kd.C Go.Proofs.YtfplcohjnlbfjaaW.PrintWords.Kd.string w A1 l1.length l1) (hc1 : l1.length ≤ c1) (hq0 : l0.length ≤ 140737488351232) (hq1 : ∀ x ∈ l0, Op.QClass x) (hq2 : l1.length ≤ 140737488351232) (hq4 : a2.size ≤ 140737488351232) (hq5 : a3.size ≤ 140737488351232) (w1 : (Lit.int .u8 px).wf = true) (w2 : (Lit.int .u8 py).wf = true) (hM : MaxL w) :
  Calls Try.prog 6 #[.agg #[.slice A0 l0.length c0,.slice A1 l1.length c1,.string a2,.string a3,.string a4],.int .u8 px,.int .u8 py] w fun e w' => e = .returned (.bool true) ∧ Below w.heap.size w w' :=
 HandV.GenWithin_all _ A0 c0 l0 A1 c1 l1 a2 a3 a4 px py w (F_of_C heapC hC0) hc0 hC1 hc1 hM hq1 ⟨hq0,hq2,hq4,hq5⟩ (by have:=wf_u8 w1;omega) (by have:=wf_u8 w2;omega)
theorem tabMaxL {W : World} (hSh : W.ShapedOpen Try.prog) : Hand.MaxL W := Try.laysM145.s1_3 W hSh
set_option maxRecDepth 100000 in
theorem contract (H : Type) (enc : TypeId × Value → H) (W : World) (base : Nat) (args : Array Value) (ds gs : List (DataW H)) (before : List MemPlace)
  (hval0 : ∀ (j : Nat) t v,Try.f6.params[j]? = some t → args[j]? = some v → Value.okWide Try.prog W .any base t v)
  (hW : DataW.Whole enc Try.prog Try.f6.params.toList Rows.genWithinSpec.vars false W args.toList ds gs before)
  (hsz0 : (DataW.weightsEach Try.prog (Try.f6.params.toList ++ Rows.genWithinSpec.plain.varTypes Try.prog) (ds ++ gs)).all (· ≤ reachBytes) = true) (hL : laidMetH Try.prog Rows.genWithinRow.laid W) (hSh : W.ShapedOpen Try.prog) :
  Calls Try.prog 6 args W fun e W' => ∃ v,e = .returned v ∧ Rows.genWithinSpec.post enc Try.prog Try.f6 false true false false W args v W':=by
 have hsz:=hsz0
 have hval:=hval0
 have hW':=hW
 obtain ⟨p,q,hA0,hV,rfl,hfz,hnd⟩:=hW
 have hA : DataW.TrodAll enc Try.prog W 0 (fun _ => true) true Try.f6.params.toList args.toList ds p:=hA0
 rw [Try.params6] at hA hval hsz
 obtain ⟨v0,vs0,d0,ds0,p0,q0,hargs,rfl,rfl,h0,r0⟩:=trodAll_cons hA
 obtain ⟨v1,vs1,d1,ds1,p1,q1,rfl,rfl,rfl,h1,r1⟩:=trodAll_cons r0
 obtain ⟨v2,vs2,d2,ds2,p2,q2,rfl,rfl,rfl,h2,r2⟩:=trodAll_cons r1
 obtain ⟨rfl,rfl,rfl⟩:=trodAll_nil r2
 obtain rfl : args = #[v0,v1,v2]:=by cases args;simp_all
 obtain ⟨rfl,rfl⟩:=trodVars_none hV
 have k0:=h0
 have lt0 : ∀ x ∈ p0,x.block < W.heap.size:=by obtain ⟨m,hm⟩:=k0;exact DataW.trod_lt m _ _ _ hm
 obtain ⟨A0,c0,l0,A1,c1,l1,s2,s3,s4,rfl,hC0,hc0,hC1,hc1,hq0,hq1,hq2,_,hq4,hq5,_⟩:=Hand.Op.open_program (fun n hn => of_decide_eq_true (List.all_eq_true.1 hsz n (DataW.weights_mem_each (j:=0) (t:=27) rfl rfl n hn))) (hval 0 27 v0 rfl rfl) h0
 obtain ⟨a1,rfl,rfl,rfl,w1⟩:=open_int Try.underlying5 (hval 1 5 v1 rfl rfl) h1
 obtain ⟨a2,rfl,rfl,rfl,w2⟩:=open_int Try.underlying5 (hval 2 5 v2 rfl rfl) h2
 clear hA0 hval0 hsz0 hsz
 refine (walkGenWithin A0 c0 l0 A1 c1 l1 s2 s3 s4 a1 a2 W hC0 hc0 hC1 hc1 hq0 hq1 hq2 hq4 hq5 w1 w2 (tabMaxL hSh)).mono fun e W' ⟨he,bel⟩ => ?_
 subst he
 exact ⟨_,rfl,_,_,_,[],_,[],hW',trodAll_mk1 (shut_bool Try.underlying4 _),(trodAll_cons_mk (Below.trod laidOut (by kernel_rfl) (of_decide_eq_true (by kernel_rfl)) k0 bel lt0) (trodAll_cons_mk (shut_int Try.underlying5 w1) (trodAll_cons_mk (shut_int Try.underlying5 w2) trodAll_mk0))),rfl,bel.frame _,fun h => by cases h⟩
noncomputable def laidWorld (os : Os) : World :=
 { World.holding Try.prog os ⟨#[],#[],[]⟩ with heap:=(World.holding Try.prog os ⟨#[],#[],[]⟩).heap }
theorem laid_met (os : Os) : laidMetH Try.prog Rows.genWithinRow.laid ((laidWorld os).forCall (fun _ _ => 0) ⟨#[], #[.agg #[.slice none 0 0, .slice none 0 0, .string .empty, .string .empty, .string .empty], .int .u8 0, .int .u8 0], []⟩).memory := laidMetH_nil _ _
theorem reads (os : Os) {H : Type} (enc : TypeId × Value → H) : ∃ places, DataW.whole enc Try.prog ((laidWorld os).forCall (fun _ _ => 0) ⟨#[], #[.agg #[.slice none 0 0, .slice none 0 0, .string .empty, .string .empty, .string .empty], .int .u8 0, .int .u8 0], []⟩).memory Try.f6.params.toList Rows.genWithinSpec.vars false (#[.agg #[.slice none 0 0, .slice none 0 0, .string .empty, .string .empty, .string .empty], .int .u8 0, .int .u8 0] : Array Value).toList 8 = some ([.agg [.nil, .nil, .agg [.lit (.string []), .lit (.string []), .lit (.string [])]], .lit (.int .u8 0), .lit (.int .u8 0)], [], places) :=
 ⟨[],by kernel_rfl⟩
set_option maxRecDepth 100000 in
theorem lifted (os : Os) (started : os.Started) (H : Type) (enc : TypeId × Value → H) (F : Stop.Interp) :
  ReturnsInHanded {} Try.checked os 6 .any ((OpenSpec.ofChange Rows.genWithinSpec).preRow enc Try.prog Try.f6 Rows.genWithinRow.domain false Rows.genWithinRow.laid) (((OpenSpec.ofChange Rows.genWithinSpec).at F).post enc Try.prog Try.f6 false true false false):=by
 obtain ⟨places,hx⟩:=reads os enc
 refine returnsInHanded_of_row (C:=Try.checked) (s:=(OpenSpec.ofChange Rows.genWithinSpec)) own started (by kernel_rfl) Try.func6
  (witness_row_at (enc:=enc) (C:=Try.checked) false (laidWorld os) #[.agg #[.slice none 0 0,.slice none 0 0,.string .empty,.string .empty,.string .empty],.int .u8 0,.int .u8 0] rfl (by kernel_rfl) (by kernel_rfl) (by kernel_rfl)
   (OpenSpec.preRow_of_cond 8 hx (by kernel_rfl) (fun k hk => by cases hk) (by kernel_rfl) (laid_met os))) ?_
 intro W base args ds gs before hval hW _ hk hsz hL hSh _
 exact contract H enc W base args ds gs before hval hW hsz hL hSh
theorem c1 : Try.pinned.checked.prog.funcNamed Rows.genWithinRow.func = some 6 := by kernel_rfl
theorem c3 : joinedFacts Try.pinned.checked.prog 6 Try.f6 (OpenSpec.ofChange Rows.genWithinSpec).bare Rows.genWithinRow = true := by
 show joinedFacts Try.prog 6 Try.f6 (OpenSpec.ofChange Rows.genWithinSpec).bare Rows.genWithinRow = true
 unfold joinedFacts
 rw [Hand.seat_mayEnter,Hand.seat_lifts,Hand.seat_make]
 kernel_rfl
theorem c4 : Try.f6.isInstance Try.pinned.checked.prog Rows.genWithinRow.origin Rows.genWithinRow.targs := of_decide_eq_true (by kernel_rfl)
theorem c5 : Try.f6.isWrapper Try.pinned.checked.prog Rows.genWithinRow.wrapper Rows.genWithinRow.mainSum := by unfold Func.isWrapper; first | (rw [if_pos (by decide +kernel)]; kernel_rfl) | (rw [if_neg (by decide +kernel)]; exact ⟨rfl, rfl⟩)
theorem said : Rows.GenWithinSaid :=
 OpenClaim.holds_of_cond 6 Try.f6 rfl rfl rfl rfl rfl rfl rfl ⟨rfl,rfl,rfl,rfl,rfl⟩ rfl rfl rfl rfl rfl c1 Try.func6 c3 c4 c5
  (fun os started H enc _ F => by rw [OpenClaim.pre_eq_preRow];exact lifted os started H enc F)
#print axioms said
end Go.Proofs.Ytfplcohjnlbfjaa.genWithin
namespace Go.Proofs.Ytfplcohjnlbfjaa
theorem genWithin_holds : Rows.GenWithinSaid := genWithin.said
end Go.Proofs.Ytfplcohjnlbfjaa
