import Derived.Test.YtfplcohjnlbfjaaMgGenSets1
import Derived.Test.YtfplcohjnlbfjaaMgGenSets5
import Derived.Test.YtfplcohjnlbfjaaProg
import Derived.Below
import Derived.Deep.Draws
import Derived.Deep.AppendLies
import Derived.Maps.AppendAt
import Derived.OwnWalk
import Derived.Laws.BytesArg
import Derived.Laws.MakeOwn
import Derived.Laws.OwnMore
import Derived.Deep.OwnRows
import Derived.Tactics
import Derived.Lib.ConvBytes
import Derived.Laws.Slices
import Derived.WalkKit
import Derived.KernelRfl
import Derived.RowKit3
import Derived.Deep.LoopGhost
import Derived.Deep.QuietTactic
import Derived.BigQuiet
import Derived.WideLaws
import Derived.Deep.DeepCutAuto
import Derived.Deep.CutBlock
import Derived.Deep.RegionHeld3
import Derived.Laws.Rows
import Derived.Lib.AppendStr
import Derived.ArgAppend
import Derived.Laws.IdiomCopy
import Derived.OrdersHeld
import Derived.Laws.BitsLemmas
import Derived.RowKit
import Derived.Test.YtfplcohjnlbfjaaMgGenSets0
import Derived.Lib.SmallJoins
import Derived.Test.YtfplcohjnlbfjaaMgGenSets3
import Derived.Test.YtfplcohjnlbfjaaMgGenSets4
set_option linter.unusedVariables false
set_option linter.unusedSimpArgs false
set_option maxHeartbeats 64000000
set_option maxRecDepth 100000
section
namespace Go.Proofs.Ytfplcohjnlbfjaa.Hand
open Go.RowKit Go.Proofs.YtfplcohjnlbfjaaW
open PrintWords PrintLast PrintMore
def setAll (cs : Array Value) : Nat → List Value → Array Value
 | _,[] => cs
 | o,v :: vs => setAll (cs.setIfInBounds o v) (o + 1) vs
theorem setCells_blk0 {g : Nat} {t : TypeId} : ∀ (vs : List Value) (o : Nat) (w : World) (cs : Array Value), w.heap[g]? = some (.cells cs t (0, 0)) → (w.setCells g o vs).heap[g]? = some (.cells (setAll cs o vs) t (0, 0))
 | [],_,_,_,h => h
 | v :: vs,o,w,cs,h => setCells_blk0 vs (o + 1) (w.setCell ⟨g,o,none⟩ v) (cs.setIfInBounds o v) (blk_set h o v)
theorem setCells_blk {w : World} {g : Nat} {t : TypeId} {cs cs' : Array Value} (h : w.heap[g]? = some (.cells cs t (0, 0))) (o : Nat) (vs : List Value) (e : setAll cs o vs = cs') : (w.setCells g o vs).heap[g]? = some (.cells cs' t (0, 0)) := e ▸ setCells_blk0 vs o w cs h
theorem setCells_below {n : Nat} {w0 : World} {g : Nat} (hg : n ≤ g) : ∀ (vs : List Value) (o : Nat) (w : World), Below n w0 w → Below n w0 (w.setCells g o vs)
 | [],_,_,h => h
 | v :: vs,o,w,h => setCells_below hg vs (o + 1) (w.setCell ⟨g,o,none⟩ v) (h.setCell (p:=⟨g,o,none⟩) hg v)
theorem setCells_far {g k : Nat} {ob : Option Obj} (hk : k ≠ g) : ∀ (vs : List Value) (o : Nat) (w : World), w.heap[k]? = ob → (w.setCells g o vs).heap[k]? = ob
 | [],_,_,h => h
 | v :: vs,o,w,h => setCells_far hk vs (o + 1) (w.setCell ⟨g,o,none⟩ v) ((Below.heap_setCell _ _ _ _ (show k ≠ (⟨g,o,none⟩ : Addr).block from hk)).trans h)
theorem setCells_size (g : Nat) : ∀ (vs : List Value) (o : Nat) (w : World), (w.setCells g o vs).heap.size = w.heap.size
 | [],_,_ => rfl
 | v :: vs,o,w => (setCells_size g vs (o + 1) (w.setCell ⟨g,o,none⟩ v)).trans (World.size_setCell _ _ _)
theorem there_blk {w : World} {g : Nat} {t : TypeId} {cs : Array Value} (h : w.heap[g]? = some (.cells cs t (0, 0))) (o n : Nat) (hn : o + n ≤ cs.size) : w.there g o n := fun j hj => by
 refine ⟨?_,blk_frozen h _⟩
 rw [blk_cell h (o + j)]
 rw [Array.getElem?_eq_getElem (by omega)]
 rfl
theorem range_blk {w : World} {g : Nat} {t : TypeId} {cs : Array Value} (h : w.heap[g]? = some (.cells cs t (0, 0))) (o n : Nat) (vs : List Value) (e : (cs.extract o (o + n)).toList = vs) : w.rangeAt g o vs := e ▸ World.rangeAt_of_block h o n
theorem all_one {cs : List Value} (h : cs.all (·.oneCell') = true) : cs.toArray.all (·.oneCell') = true := all_oneCell_toArray (List.all_eq_true.1 h)
theorem wpList_store_blk {P : Program} {ops : Array Oper} {rest : List Oper} {op : Oper} {a : Act} {w : World} {Q : Exit → Act → World → Prop} {g : Nat} {t : TypeId} {cs cs' : Array Value}
  (hb : w.heap[g]? = some (.cells cs t (0,0))) (ty : TypeId) (x y : Operand) (o n : Nat) (vs : List Value) (hgd : op.guard = none) (ho : op.op = .store ty x y) (hx : a.eval x = .pointer (some ⟨g,o,none⟩)) (hy : a.eval y = .agg vs.toArray)
  (hl : vs.length = n) (hn : o + n ≤ cs.size) (hi : (P.info? ty).map (·.size) = some n) (h1 : vs.all (·.oneCell') = true) (e : setAll cs o vs = cs')
  (h : ∀ W',W'.heap[g]? = some (.cells cs' t (0,0)) → (∀ n w0,n ≤ g → Below n w0 w → Below n w0 W') → (∀ k ob,k ≠ g → w.heap[k]? = ob → W'.heap[k]? = ob) → W'.heap.size = w.heap.size → wpList P ops Q rest (a.put op.dst undef) W') : wpList P ops Q (op :: rest) a w:=by
 subst hl
 have hs : (w.setCells g o vs).heap.size = w.heap.size:=setCells_size g vs o w
 exact wpList_store_mid hgd ty x y ho g o vs.toArray hx hy (there_blk hb o _ (by simpa using hn)) (by simpa using hi) (all_one h1) (h _ (setCells_blk hb o vs e) (fun n w0 hn hB => setCells_below hn vs o w hB) (fun k ob hk hb => setCells_far hk vs o w hb) hs)
theorem wpList_load_blk {P : Program} {ops : Array Oper} {rest : List Oper} {op : Oper} {a : Act} {w : World} {Q : Exit → Act → World → Prop} {g : Nat} {t : TypeId} {cs : Array Value}
  (hb : w.heap[g]? = some (.cells cs t (0,0))) (ty : TypeId) (x : Operand) (o n : Nat) (vs : List Value) (d : TypeDesc) (hgd : op.guard = none) (ho : op.op = .load ty x) (hx : a.eval x = .pointer (some ⟨g,o,none⟩))
  (hl : vs.length = n) (e : (cs.extract o (o + n)).toList = vs) (hu : P.underlying ty = some d) (hd : d.isRow = true) (hi : (P.info? ty).map (·.size) = some n)
  (h : wpList P ops Q rest (a.put op.dst (.agg vs.toArray)) w) : wpList P ops Q (op :: rest) a w:=by
 subst hl
 exact wpList_load_mid hgd ty x ho g o hx vs d (range_blk hb o _ vs e) hu hd hi h
end Go.Proofs.Ytfplcohjnlbfjaa.Hand
end

section
namespace Go.Proofs.Ytfplcohjnlbfjaa.Q44
open Go.RowKit Go.Proofs.YtfplcohjnlbfjaaW
open PrintWords PrintLast PrintMore Go.Proofs.Ytfplcohjnlbfjaa.Hand
attribute [local go_sem] max2_int min2_int max_two min_two max_three min_three max_four min_four
def errW : Option Int → Value
  | none => .nilIface
  | some c => .iface 0 (.int .i64 c)
theorem errW_none : errW none = .nilIface := rfl
theorem errW_some (c : Int) : errW (some c) = .iface 0 (.int .i64 c) := rfl
end Go.Proofs.Ytfplcohjnlbfjaa.Q44
end

section
namespace Go.Proofs.Ytfplcohjnlbfjaa.Q44
open Go.RowKit Go.Proofs.YtfplcohjnlbfjaaW
open PrintWords PrintLast PrintMore
attribute [local go_sem] max2_int min2_int max_two min_two max_three min_three max_four min_four
end Go.Proofs.Ytfplcohjnlbfjaa.Q44
end

section
namespace Go.Proofs.Ytfplcohjnlbfjaa.Hand
open Go.RowKit Go.Proofs.YtfplcohjnlbfjaaW
open PrintWords PrintLast PrintMore
theorem rangeAt_below {w w' : World} {b o : Nat} {cs : List Value} (h : w.rangeAt b o cs) (hb : Below w.heap.size w w') : w'.rangeAt b o cs := fun j v hv => (hb.cell (World.block_lt_of_cell? _ _ (h j v hv))).trans (h j v hv)
theorem step_store_blk {P : Program} {ops : Array Oper} {op : Oper} {a : Act} {w : World} {K : Act → World → Prop} {Q : Exit → Act → World → Prop} {g : Nat} {t : TypeId} {cs cs' : Array Value}
  (hb : w.heap[g]? = some (.cells cs t (0,0))) (ty : TypeId) (x y : Operand) (o n : Nat) (vs : List Value) (hw : Region.wanted op (yielded ops a.tmps) = true) (hN : op.dst = none) (ho : op.op = .store ty x y) (hx : a.eval x = .pointer (some ⟨g,o,none⟩)) (hy : a.eval y = .agg vs.toArray)
  (hl : vs.length = n) (hn : o + n ≤ cs.size) (hi : (P.info? ty).map (·.size) = some n) (h1 : vs.all (·.oneCell') = true) (e : setAll cs o vs = cs')
  (h : ∀ W',W'.heap[g]? = some (.cells cs' t (0,0)) → (∀ n w0,n ≤ g → Below n w0 w → Below n w0 W') → (∀ k ob,k ≠ g → w.heap[k]? = ob → W'.heap[k]? = ob) → W'.heap.size = w.heap.size → K a W') : if Region.wanted op (yielded ops a.tmps) = true then Oper.wp P op a w K Q else K (a.put none undef) w:=by
 rw [if_pos hw]
 subst hl
 have hs : (w.setCells g o vs).heap.size = w.heap.size:=setCells_size g vs o w
 refine wp_store_mid ty x y ho g o vs.toArray hx hy (there_blk hb o _ (by simpa using hn)) (by simpa using hi) (all_one h1) ?_
 show K (a.put op.dst undef) _
 rw [hN]
 exact h _ (setCells_blk hb o vs e) (fun n w0 hn hB => setCells_below hn vs o w hB) (fun k ob hk hb => setCells_far hk vs o w hb) hs
end Go.Proofs.Ytfplcohjnlbfjaa.Hand
end

section
namespace Go.Proofs.Ytfplcohjnlbfjaa.HandV
open Go.Proofs.Ytfplcohjnlbfjaa.Hand Go.RowKit Go.Proofs.YtfplcohjnlbfjaaW.PrintWords Go.Proofs.YtfplcohjnlbfjaaW.PrintLast Go.Proofs.YtfplcohjnlbfjaaW.PrintMore
theorem R_any {e : Nat} {W : World} {base : Nat} {ok ok' : Nat → Prop} {v : Value} {l : List CV} (h : Kd.R kCV e W base ok v l) (ho : ∀ k, v.ownBlock = some k → ok' k) : Kd.R kCV e W base ok' v l :=
  ⟨ho,h.2.imp_ (fun x cs hm => by rw [kCV_open (kCV.K_of_M hm)];exact kCV_mkM _ _ _ _)⟩
theorem R_storefar {W W' : World} {b n : Nat} {ok : Nat → Prop} {v : Value} {xs : List Int} {cs : Array Value} (h : Kd.R (Kd.int .i64) 3 W b ok v xs) (hb : W.heap[n]? = some (.cells cs 60 (0, 0))) (hF : ∀ k ob, k ≠ n → W.heap[k]? = ob → W'.heap[k]? = ob) : Kd.R (Kd.int .i64) 3 W' b ok v xs :=
  Kd.R_mono (Kd.R_step (Kd.R_bound h) (fun k hk _ => hF k _ (fun e => by
    obtain ⟨_,_,_,q,hq,cells,hc⟩:=hk
    rw [e,hb] at hc
    injection hc with hc
    injection hc with _ hc _
    rw [← hc] at hq
    exact absurd hq (by decide)) rfl)) (fun _ hk => hk.1)
theorem R_not {W : World} {b n c : Nat} {ok : Nat → Prop} {ad : Addr} {m : Nat} {xs : List Int} {cs : Array Value} (h : Kd.R (Kd.int .i64) 3 W b ok (.slice (some ad) m c) xs) (hb : W.heap[n]? = some (.cells cs 60 (0, 0))) : ad.block ≠ n := fun e => by
  have h1:=Kd.R_ne h (g:=n) hb (by decide)
  exact h1 (by rw [← e];rfl)
theorem IvS.store {w W W' : World} {base g n : Nat} {a0 a1 a2 a3 a4 : Value} {m : S25} {pc : Int} {b0 b1 b2 b3 b4 b5 b6 b7 b8 : Value} {v0 v : Value} {l : List CV} {cs cs' : Array Value} {ty : TypeId} (h : IvS w W base g a0 a1 a2 a3 a4 m pc b0 b1 b2 b3 b4 b5 b6 b7 b8 v0 v l n cs ty) (hn0 : w.heap.size ≤ n) (hbz : base ≤ w.heap.size) (hq : W'.heap[n]? = some (.cells cs' ty (0, 0))) (hB : ∀ k w0, k ≤ n → Below k w0 W → Below k w0 W') (hF : ∀ k ob, k ≠ n → W.heap[k]? = ob → W'.heap[k]? = ob) (hsz : W'.heap.size = W.heap.size) : IvS w W' base g a0 a1 a2 a3 a4 m pc b0 b1 b2 b3 b4 b5 b6 b7 b8 v0 v l n cs' ty :=
  ⟨⟨hF g _ h.hn.symm h.hm.b,h.hm.hb,Kd.R_mono (Kd.R_step (R_any h.hm.r (ok':=fun k => k ≠ n) (fun k hk e => h.hv (by rw [hk,e]))) (fun k hk _ => hF k _ hk rfl)) (fun _ _ => trivial)⟩,
   hB base w (Nat.le_trans hbz hn0) h.hB,⟨⟨by rw [hsz];exact h.hK.1.1,fun i hi hg hv => (hF i _ (by omega) rfl).trans (h.hK.1.2 i hi hg hv)⟩,h.hK.2⟩,hq,h.hn,h.hv,by rw [hsz];exact h.hs⟩
theorem IvS.set1 {w W : World} {base g n : Nat} {a0 a1 a2 a3 a4 : Value} {m : S25} {pc : Int} {b0 b1 b2 b3 b4 b5 b6 b7 b8 : Value} {v0 v : Value} {l : List CV} {cs cs' : Array Value} {ty : TypeId} (h : IvS w W base g a0 a1 a2 a3 a4 m pc b0 b1 b2 b3 b4 b5 b6 b7 b8 v0 v l n cs ty) (hn0 : w.heap.size ≤ n) (hbz : base ≤ w.heap.size) (j : Nat) (u : Value) (he : cs.setIfInBounds j u = cs') : IvS w (W.setCell ⟨n, j, none⟩ u) base g a0 a1 a2 a3 a4 m pc b0 b1 b2 b3 b4 b5 b6 b7 b8 v0 v l n cs' ty :=
  h.store hn0 hbz (blk_put h.hz j u he) (fun k w0 hk hb => hb.setCell (p:=⟨n,j,none⟩) hk u) (fun k ob hk hb => (Below.heap_setCell _ _ _ _ (show k ≠ (⟨n,j,none⟩ : Addr).block from hk)).trans hb) (World.size_setCell _ _ _)
theorem asked_ans {m : S25} {pc : Int} {x : S74} {c : CV} {ins : List CV} {s : ByteArray} (h1 : c.f1 = pc) (h2 : c.f4.f0 = m) (h3 : c.f2 = ansP m x.f1 s) (hu : x.f1 ∈ usesR x) (h4 : c.f3.f0 = 1 → c.f3.f1 = m ∧ c.f3.f2 ∈ usesR x) (h : Asked m pc x ins false) : Asked m pc x (c :: ins) (ansB s) := by
  unfold ansP at h3
  refine ⟨fun d hd => ?_,fun hs => ⟨c,List.mem_cons_self,?_⟩⟩
  · rcases List.mem_cons.1 hd with rfl|hd
    · refine ⟨h1,h2,fun h0 => ?_,h4⟩
      rw [h3] at h0 ⊢
      split at h0
      · rename_i hb
        rw [if_pos hb]
        exact ⟨rfl,hu⟩
      · exact absurd (show (0 : Int) = 1 from h0) (by decide)
    · exact h.1 d hd
  · rw [h3,if_pos hs]
theorem mk_call19 (base g : Nat) (A0 : Option Addr) (c0 : Nat) (l0 : List S33) (A1 : Option Addr) (c1 : Nat) (l1 : List ByteArray) (a2 a3 a4 : ByteArray) (m : S25) (pc : Int) (ia ib ic id : Int) (s5 s6 s7 : ByteArray) (A8 : Option Addr) (c8 : Nat) (ags : List Int) (v : Value) (l : List CV) (w : World) (hm : MkOwn w base g (.slice A0 l0.length c0) (.slice A1 l1.length c1) (.string a2) (.string a3) (.string a4) m pc (.int .i64 19) (.int .i64 ia) (.int .i64 ib) (.int .i64 ic) (.int .i64 id) (.string s5) (.string s6) (.string s7) (.slice A8 ags.length c8) v l) (hl : l.length + 2 ≤ 1048576) (hbz : base ≤ w.heap.size) (hr0 : Kd.C k33 w A0 l0.length l0) (hc0 : l0.length ≤ c0) (hr1 : Kd.C Kd.string w A1 l1.length l1) (hc1 : l1.length ≤ c1) (hM : MaxL w) (hs7 : s7.size ≤ 1048576) (hC8 : Kd.C (Kd.int .i64) w A8 ags.length ags) (hc8 : ags.length ≤ c8) (hag : ags.length ≤ 1048576) (t0 t1 t2 : ByteArray) (ok : Bool) (hst : find_Static.f l0 l1 a2 a3 a4 s5 s6 s7 = some (t0, t1, t2, ok)) :
    Calls Try.prog 73 #[.pointer (some ⟨g,0,none⟩)] w fun e w' => ∃ v' ins,e = .returned (.tuple #[]) ∧ MkOwn w' base g (.slice A0 l0.length c0) (.slice A1 l1.length c1) (.string a2) (.string a3) (.string a4) m pc (.int .i64 19) (.int .i64 ia) (.int .i64 ib) (.int .i64 ic) (.int .i64 id) (.string s5) (.string s6) (.string s7) (.slice A8 ags.length c8) v' (l ++ ins) ∧ ins.length ≤ 3 ∧ Asked m pc (⟨19,ia,ib,ic,id,s5,s6,s7,ags⟩ : S74) ins (ok && ansB s7) ∧ Below base w w' ∧ Kp w w' g v v':=by
  have HXB : Aside0 (Below w.heap.size w w.drew):=⟨below_drew1 (Below.refl _ _)⟩
  obtain ⟨pa,hpa⟩ : ∃ pa,ansP m ia s7 = pa:=⟨_,rfl⟩
  have HPA:=aq hpa
  have HM0 : Aside0 (MkOwn w.drew base g (.slice A0 l0.length c0) (.slice A1 l1.length c1) (.string a2) (.string a3) (.string a4) m pc (.int .i64 19) (.int .i64 ia) (.int .i64 ib) (.int .i64 ic) (.int .i64 id) (.string s5) (.string s6) (.string s7) (.slice A8 ags.length c8) v l):=⟨hm.below HXB.out hbz⟩
  have HAN : Aside0 (∀ W,Below w.drew.heap.size w.drew W → Calls Try.prog 91 #[.pointer (some ⟨g,0,none⟩)] W fun e w' => e = .returned (.agg (List.toArray (qL pa []))) ∧ Below W.heap.size W w'):=⟨fun W hW => by
    have h:=mk_answer g (.slice A0 l0.length c0) (.slice A1 l1.length c1) (.string a2) (.string a3) (.string a4) m pc (.int .i64 19) ia (.int .i64 ib) (.int .i64 ic) (.int .i64 id) (.string s5) (.string s6) s7 (.slice A8 ags.length c8) v W (blk_below HM0.out.b hW) (max_below hM (HXB.out.trans (hW.mono HXB.out.size))) hs7
    rw [hpa] at h
    exact h⟩
  have HCN : Aside0 (∀ W,Below w.drew.heap.size w.drew W → Calls Try.prog 92 #[.slice A8 ags.length c8] W fun e w' => ∃ v0_ : Value,e = .returned v0_ ∧ Kd.R (Kd.int .i64) 3 w' W.heap.size (fun _ => True) v0_ ags ∧ Below W.heap.size W w'):=⟨fun W hW => slices_Clone_int_int.calls A8 c8 ags ags W (Kd.C_below hC8 (HXB.out.trans (hW.mono HXB.out.size))) hc8 (if_pos hag)⟩
  have HBc : Aside0 (Below w.drew.heap.size w.drew w.drew):=⟨Below.refl _ _⟩
  have HBz:=aq hbz
  have HL:=aq hl
  have HAG:=aq hag
  have HST0 : Aside0 (∀ W,Below w.heap.size w W → Calls Try.prog 93 #[.agg (pG A0 l0 c0 A1 l1 c1 a2 a3 a4),.agg #[.string s5,.string s6,.string s7]] W fun e w' => e = .returned (.tuple #[.agg #[.string t0,.string t1,.string t2],.bool ok]) ∧ Below W.heap.size W w'):=⟨fun W hW => find_Static.calls A0 c0 l0 A1 c1 l1 a2 a3 a4 s5 s6 s7 t0 t1 t2 ok W (Kd.C_below hr0 hW) hc0 (Kd.C_below hr1 hW) hc1 hst⟩
  clear hm hl hbz hr0 hr1 hM hs7 hC8 hag hpa hst
  have z0 : w.drew.cell? ⟨g,14,none⟩ = some (.string s5):=blk_cell HM0.out.b 14
  have z1 : w.drew.cell? ⟨g,15,none⟩ = some (.string s6):=blk_cell HM0.out.b 15
  have z2 : w.drew.cell? ⟨g,16,none⟩ = some (.string s7):=blk_cell HM0.out.b 16
  have z3 : w.drew.cell? ⟨g,17,none⟩ = some (.slice A8 ags.length c8):=blk_cell HM0.out.b 17
  go_enter Try.func73,Try.ntmps73
  go_wp2_with fail
  refine start_ (n:=27) (S:=fun w' => w'.cell? ⟨g,14,none⟩ = some (.string s5) ∧ w'.cell? ⟨g,15,none⟩ = some (.string s6) ∧ w'.cell? ⟨g,16,none⟩ = some (.string s7) ∧ w'.cell? ⟨g,17,none⟩ = some (.slice A8 ags.length c8)) (ds:=[26]) (Array.replicate 27 false) (by kernel_rfl) rfl rfl ⟨z0,z1,z2,z3⟩ (fun hHeld => ?_)
  generalize w.drew = X at HM0 HAN HCN HBc HXB z0 z1 z2 z3 hHeld ⊢
  refine sP (i:=0) (N:=some 5) ?_
  refine sP (i:=2) (N:=some 7) ?_
  refine sP (i:=3) (N:=some 8) ?_
  refine sP (i:=4) (N:=some 9) ?_
  refine sP (i:=5) (N:=some 10) ?_
  refine sP (i:=7) (N:=some 12) ?_
  refine sP (i:=8) (N:=some 13) ?_
  refine sP (i:=9) (N:=some 14) ?_
  refine sP (i:=10) (N:=some 15) ?_
  refine sP (i:=12) (N:=some 17) ?_
  refine sP (i:=13) (N:=some 18) ?_
  refine sP (i:=14) (N:=some 19) ?_
  refine sP (i:=15) (N:=some 20) ?_
  refine sP (i:=18) (N:=some 23) ?_
  refine sP (i:=19) (N:=some 24) ?_
  refine sP (i:=20) (N:=some 25) ?_
  refine sP (i:=21) (N:=some 26) ?_
  refine sT (i:=6) (N:=some 11) hHeld ?_
  refine sT (i:=11) (N:=some 16) hHeld ?_
  refine sT (i:=16) (N:=some 21) hHeld ?_
  refine sP (i:=17) (N:=some 22) ?_
  refine sT (i:=22) (N:=some 27) hHeld ?_
  refine join_ (σ:=Nat × Option Addr × Nat) 1 #[true,true,true,true,true,true,true,true,true,true,true,true,true,true,true,true,true,true,true,true,true,true,true,true,true,true,false] (fun s => [(6,.agg (List.toArray (qL pa []))),(28,.slice s.2.1 ags.length s.2.2),(29,.agg (List.toArray ((kK 10 0 (qL pa (qZ (sZ (fZ (kS ⟨#[]⟩ (mS s5 s6 s7 [.slice s.2.1 ags.length s.2.2])))))))))),(2,.pointer (some ⟨s.1,0,none⟩))]) (fun s w' => w'.heap[s.1]? = some (Obj.cells (List.toArray ((kK 0 0 (qZ (qZ (sZ (fZ (kS ⟨#[]⟩ (mZ [.slice none 0 0]))))))))) 60 (0,0)) ∧ Below X.heap.size X w' ∧ X.heap.size ≤ s.1 ∧ Kd.R (Kd.int .i64) 3 w' 0 (fun _ => True) (.slice s.2.1 ags.length s.2.2) ags) ?_ ?_
  rotate_left
  · intro hCont
    refine sW (i:=1) (j:=25) (Ni:=some 6) (Nj:=some 2) (fun K hK => ?_) fun K hK => ?_
    · skip
      refine sG Try.func91 #[.pointer (some ⟨g,0,none⟩)] ?_
      refine (HAN.out X HBc.out).mono ?_
      rintro e w1 ⟨rfl,hb⟩
      refine ⟨_,rfl,?_⟩
      replace HBc:=aq (HBc.out.trans (hb.mono HBc.out.size))
      clear hb
      refine hK.out _ _ ⟨(sC HBc.out z0),(sC HBc.out z1),(sC HBc.out z2),(sC HBc.out z3)⟩ (fun hHeld => ?_)
      clear hK K
      refine sN ?_
      refine sW (i:=23) (j:=25) (Ni:=some 28) (Nj:=some 2) (fun K hK => ?_) fun K hK => ?_
      · skip
        refine sG Try.func92 #[.slice A8 ags.length c8] ?_
        refine (HCN.out w1 HBc.out).mono ?_
        rintro e w23 ⟨vC,rfl,hR,hb⟩
        obtain ⟨AC,cC,hvC⟩:=Kd.R_slice hR
        subst hvC
        refine ⟨_,rfl,?_⟩
        replace HBc:=aq (HBc.out.trans (hb.mono HBc.out.size))
        have HCL:=aq (Kd.R_lower hR (Nat.zero_le _))
        clear hb hR
        refine hK.out _ _ ⟨(sC HBc.out z0),(sC HBc.out z1),(sC HBc.out z2),(sC HBc.out z3)⟩ (fun hHeld => ?_)
        clear hK K
        refine sN ?_
        refine sP (i:=24) (N:=some 29) ?_
        refine sO (i:=25) (N:=some 2) fun K hK => ?_
        refine value_ (w1:=?_) (v:=?_) (by rfl) rfl ?_ ?_
        rotate_left 2
        · go_simp
          constructor
          · rfl
          · rfl
        have HG : Aside0 (X.heap.size ≤ w23.heap.size):=⟨HBc.out.size⟩
        have hb : Below w23.heap.size w23 (w23.alloc (Obj.cells (List.toArray ((kK 0 0 (qZ (qZ (sZ (fZ (kS ⟨#[]⟩ (mZ [.slice none 0 0]))))))))) 60)):=below_alloc (Below.refl _ _) _
        replace HCL:=aq (Kd.R_below HCL.out hb)
        replace HBc:=aq (HBc.out.trans (hb.mono HBc.out.size))
        have HF:=aq (World.alloc_heap_new w23 (Obj.cells (List.toArray ((kK 0 0 (qZ (qZ (sZ (fZ (kS ⟨#[]⟩ (mZ [.slice none 0 0]))))))))) 60))
        clear hb
        refine hK.out _ _ ⟨(sC HBc.out z0),(sC HBc.out z1),(sC HBc.out z2),(sC HBc.out z3)⟩ (fun hHeld => ?_)
        clear hK K
        refine sN ?_
        exact norm_ (by simp only [putAll,Act.put,List.setIfInBounds_toArray,List.set_cons_zero,List.set_cons_succ]) (hCont (w23.heap.size,AC,cC) _ ⟨HF.out,HBc.out,HG.out,HCL.out⟩)
      · skip
        refine value_ (w1:=?_) (v:=?_) (by rfl) rfl ?_ ?_
        rotate_left 2
        · go_simp
          constructor
          · rfl
          · rfl
        have HG : Aside0 (X.heap.size ≤ w1.heap.size):=⟨HBc.out.size⟩
        have hb : Below w1.heap.size w1 (w1.alloc (Obj.cells (List.toArray ((kK 0 0 (qZ (qZ (sZ (fZ (kS ⟨#[]⟩ (mZ [.slice none 0 0]))))))))) 60)):=below_alloc (Below.refl _ _) _
        replace HBc:=aq (HBc.out.trans (hb.mono HBc.out.size))
        have HF:=aq (World.alloc_heap_new w1 (Obj.cells (List.toArray ((kK 0 0 (qZ (qZ (sZ (fZ (kS ⟨#[]⟩ (mZ [.slice none 0 0]))))))))) 60))
        clear hb
        refine hK.out _ _ ⟨(sC HBc.out z0),(sC HBc.out z1),(sC HBc.out z2),(sC HBc.out z3)⟩ (fun hHeld => ?_)
        clear hK K
        refine sN ?_
        refine sO (i:=23) (N:=some 28) fun K hK => ?_
        refine sG Try.func92 #[.slice A8 ags.length c8] ?_
        refine (HCN.out (w1.alloc (Obj.cells (List.toArray ((kK 0 0 (qZ (qZ (sZ (fZ (kS ⟨#[]⟩ (mZ [.slice none 0 0]))))))))) 60)) HBc.out).mono ?_
        rintro e w23 ⟨vC,rfl,hR,hb⟩
        obtain ⟨AC,cC,hvC⟩:=Kd.R_slice hR
        subst hvC
        refine ⟨_,rfl,?_⟩
        replace HF:=aq (blk_below HF.out hb)
        replace HBc:=aq (HBc.out.trans (hb.mono HBc.out.size))
        have HCL:=aq (Kd.R_lower hR (Nat.zero_le _))
        clear hb hR
        refine hK.out _ _ ⟨(sC HBc.out z0),(sC HBc.out z1),(sC HBc.out z2),(sC HBc.out z3)⟩ (fun hHeld => ?_)
        clear hK K
        refine sN ?_
        refine sP (i:=24) (N:=some 29) ?_
        exact norm_ (by simp only [putAll,Act.put,List.setIfInBounds_toArray,List.set_cons_zero,List.set_cons_succ]) (hCont (w1.heap.size,AC,cC) _ ⟨HF.out,HBc.out,HG.out,HCL.out⟩)
    · skip
      refine value_ (w1:=?_) (v:=?_) (by rfl) rfl ?_ ?_
      rotate_left 2
      · go_simp
        constructor
        · rfl
        · rfl
      have HG : Aside0 (X.heap.size ≤ X.heap.size):=⟨HBc.out.size⟩
      have hb : Below X.heap.size X (X.alloc (Obj.cells (List.toArray ((kK 0 0 (qZ (qZ (sZ (fZ (kS ⟨#[]⟩ (mZ [.slice none 0 0]))))))))) 60)):=below_alloc (Below.refl _ _) _
      replace HBc:=aq (HBc.out.trans (hb.mono HBc.out.size))
      have HF:=aq (World.alloc_heap_new X (Obj.cells (List.toArray ((kK 0 0 (qZ (qZ (sZ (fZ (kS ⟨#[]⟩ (mZ [.slice none 0 0]))))))))) 60))
      clear hb
      refine hK.out _ _ ⟨(sC HBc.out z0),(sC HBc.out z1),(sC HBc.out z2),(sC HBc.out z3)⟩ (fun hHeld => ?_)
      clear hK K
      refine sN ?_
      refine sO (i:=1) (N:=some 6) fun K hK => ?_
      refine sG Try.func91 #[.pointer (some ⟨g,0,none⟩)] ?_
      refine (HAN.out (X.alloc (Obj.cells (List.toArray ((kK 0 0 (qZ (qZ (sZ (fZ (kS ⟨#[]⟩ (mZ [.slice none 0 0]))))))))) 60)) HBc.out).mono ?_
      rintro e w1 ⟨rfl,hb⟩
      refine ⟨_,rfl,?_⟩
      replace HF:=aq (blk_below HF.out hb)
      replace HBc:=aq (HBc.out.trans (hb.mono HBc.out.size))
      clear hb
      refine hK.out _ _ ⟨(sC HBc.out z0),(sC HBc.out z1),(sC HBc.out z2),(sC HBc.out z3)⟩ (fun hHeld => ?_)
      clear hK K
      refine sN ?_
      refine sO (i:=23) (N:=some 28) fun K hK => ?_
      refine sG Try.func92 #[.slice A8 ags.length c8] ?_
      refine (HCN.out w1 HBc.out).mono ?_
      rintro e w23 ⟨vC,rfl,hR,hb⟩
      obtain ⟨AC,cC,hvC⟩:=Kd.R_slice hR
      subst hvC
      refine ⟨_,rfl,?_⟩
      replace HF:=aq (blk_below HF.out hb)
      replace HBc:=aq (HBc.out.trans (hb.mono HBc.out.size))
      have HCL:=aq (Kd.R_lower hR (Nat.zero_le _))
      clear hb hR
      refine hK.out _ _ ⟨(sC HBc.out z0),(sC HBc.out z1),(sC HBc.out z2),(sC HBc.out z3)⟩ (fun hHeld => ?_)
      clear hK K
      refine sN ?_
      refine sP (i:=24) (N:=some 29) ?_
      exact norm_ (by simp only [putAll,Act.put,List.setIfInBounds_toArray,List.set_cons_zero,List.set_cons_succ]) (hCont (X.heap.size,AC,cC) _ ⟨HF.out,HBc.out,HG.out,HCL.out⟩)
  rintro ⟨n,AC,cC⟩ w7 ⟨hf,hb,hg,hcl⟩
  replace HBc:=aq hb
  have hHeld : w7.cell? ⟨g,14,none⟩ = some (.string s5) ∧ w7.cell? ⟨g,15,none⟩ = some (.string s6) ∧ w7.cell? ⟨g,16,none⟩ = some (.string s7) ∧ w7.cell? ⟨g,17,none⟩ = some (.slice A8 ags.length c8):=⟨(sC HBc.out z0),(sC HBc.out z1),(sC HBc.out z2),(sC HBc.out z3)⟩
  have HF:=aq hf
  have HG:=aq hg
  have HCL:=aq hcl
  clear hf hb hg hcl
  refine norm_ (a':=?_) ?_ ?_
  rotate_left
  · simp only [putAll,Act.put,List.setIfInBounds_toArray,List.set_cons_zero,List.set_cons_succ]
    rfl
  refine sX (i:=26) (N:=none) fun K hK => ?_
  refine step_store_blk HF.out 60 _ _ 0 38 ((kK 10 0 (qL pa (qZ (sZ (fZ (kS ⟨#[]⟩ (mS s5 s6 s7 [.slice AC ags.length cC])))))))) (by rfl) rfl rfl rfl rfl rfl (show 38 ≤ 38 from Nat.le_refl 38) (by kernel_rfl) rfl (cs':=(List.toArray ((kK 10 0 (qL pa (qZ (sZ (fZ (kS ⟨#[]⟩ (mS s5 s6 s7 [.slice AC ags.length cC])))))))))) (by kernel_rfl) ?_
  intro w8 hq hB hF hsz
  have HZ8:=aq hq
  have HB8:=aq (hB _ _ HG.out HBc.out)
  have HC8:=aq (R_storefar HCL.out HF.out hF)
  clear hq hB hF hsz
  refine hK.out _ _ ?_
  clear hK K
  refine done_ (by kernel_rfl) ?_
  have HS8 : Aside0 (IvS w w8 base g (.slice A0 l0.length c0) (.slice A1 l1.length c1) (.string a2) (.string a3) (.string a4) m pc (.int .i64 19) (.int .i64 ia) (.int .i64 ib) (.int .i64 ic) (.int .i64 id) (.string s5) (.string s6) (.string s7) (.slice A8 ags.length c8) v v l n (List.toArray ((kK 10 0 (qL pa (qZ (sZ (fZ (kS ⟨#[]⟩ (mS s5 s6 s7 [.slice AC ags.length cC]))))))))) 60):=⟨IvS.inner HM0.out HXB.out HBz.out HB8.out HZ8.out HG.out⟩
  have HN0 : Aside0 (w.heap.size ≤ n):=⟨Nat.le_trans HXB.out.size HG.out⟩
  have HBW8 : Aside0 (Below w.heap.size w w8):=⟨HXB.out.trans (HB8.out.mono HXB.out.size)⟩
  clear hHeld z0 z1 z2 z3 HM0 HBc HXB HF HCL HB8 HZ8 HG HAN HCN
  have k9 : w8.cell? ⟨g,9,none⟩ = some (.int .i64 19):=blk_cell HS8.out.hm.b 9
  have HST:=HST0
  replace HBW8 : Aside0 (Below w.heap.size w w8.drew):=⟨HBW8.out.trans ((below_drew1 (Below.refl _ _)).mono HBW8.out.size)⟩
  have HS4 : Aside0 (IvS w w8.drew base g (.slice A0 l0.length c0) (.slice A1 l1.length c1) (.string a2) (.string a3) (.string a4) m pc (.int .i64 19) (.int .i64 ia) (.int .i64 ib) (.int .i64 ic) (.int .i64 id) (.string s5) (.string s6) (.string s7) (.slice A8 ags.length c8) v v l n (List.toArray ((kK 10 0 (qL pa (qZ (sZ (fZ (kS ⟨#[]⟩ (mS s5 s6 s7 [.slice AC ags.length cC]))))))))) 60):=⟨HS8.out.below (below_drew1 (Below.refl _ _))⟩
  have HM4 : Aside0 (MkOwn w8.drew base g (.slice A0 l0.length c0) (.slice A1 l1.length c1) (.string a2) (.string a3) (.string a4) m pc (.int .i64 19) (.int .i64 ia) (.int .i64 ib) (.int .i64 ic) (.int .i64 id) (.string s5) (.string s6) (.string s7) (.slice A8 ags.length c8) v l):=⟨HS4.out.hm⟩
  have HBc : Aside0 (Below w8.drew.heap.size w8.drew w8.drew):=⟨Below.refl _ _⟩
  have z0 : w8.drew.cell? ⟨g,0,none⟩ = some (.slice A0 l0.length c0):=blk_cell HM4.out.b 0
  have z1 : w8.drew.cell? ⟨g,1,none⟩ = some (.slice A1 l1.length c1):=blk_cell HM4.out.b 1
  have z2 : w8.drew.cell? ⟨g,2,none⟩ = some (.string a2):=blk_cell HM4.out.b 2
  have z3 : w8.drew.cell? ⟨g,3,none⟩ = some (.string a3):=blk_cell HM4.out.b 3
  have z4 : w8.drew.cell? ⟨g,4,none⟩ = some (.string a4):=blk_cell HM4.out.b 4
  have z5 : w8.drew.cell? ⟨n,34,none⟩ = some (.string s5):=blk_cell HS4.out.hz 34
  have z6 : w8.drew.cell? ⟨n,35,none⟩ = some (.string s6):=blk_cell HS4.out.hz 35
  have z7 : w8.drew.cell? ⟨n,36,none⟩ = some (.string s7):=blk_cell HS4.out.hz 36
  go_wp2_with fail
  clear k9 HS8
  refine start_ (n:=13) (S:=fun w' => w'.cell? ⟨g,0,none⟩ = some (.slice A0 l0.length c0) ∧ w'.cell? ⟨g,1,none⟩ = some (.slice A1 l1.length c1) ∧ w'.cell? ⟨g,2,none⟩ = some (.string a2) ∧ w'.cell? ⟨g,3,none⟩ = some (.string a3) ∧ w'.cell? ⟨g,4,none⟩ = some (.string a4) ∧ w'.cell? ⟨n,34,none⟩ = some (.string s5) ∧ w'.cell? ⟨n,35,none⟩ = some (.string s6) ∧ w'.cell? ⟨n,36,none⟩ = some (.string s7)) (ds:=[11]) (Array.replicate 13 false) (by kernel_rfl) rfl rfl ⟨z0,z1,z2,z3,z4,z5,z6,z7⟩ (fun hHeld => ?_)
  generalize w8.drew = X at HM4 HBW8 HS4 HBc z0 z1 z2 z3 z4 z5 z6 z7 hHeld ⊢
  refine sP (i:=0) (N:=some 40) ?_
  refine sP (i:=1) (N:=some 41) ?_
  refine sP (i:=2) (N:=some 42) ?_
  refine sP (i:=4) (N:=some 44) ?_
  refine sT (i:=3) (N:=some 43) hHeld ?_
  refine sT (i:=5) (N:=some 45) hHeld ?_
  refine join_ (σ:=Nat) 2 #[true,true,true,true,true,true,true,true,true,true,true,false,false] (fun s => [(46,.tuple #[.agg #[.string t0,.string t1,.string t2],.bool ok]),(39,.tuple #[.agg #[.string t0,.string t1,.string t2],.bool ok]),(47,.agg #[.string t0,.string t1,.string t2]),(48,.bool ok),(3,.pointer (some ⟨s,0,none⟩))]) (fun s w' => w'.heap[s]? = some (Obj.cells zR 25 (0,0)) ∧ Below X.heap.size X w' ∧ X.heap.size ≤ s) ?_ ?_
  rotate_left
  · intro hCont
    refine sW (i:=6) (j:=10) (Ni:=some 46) (Nj:=some 3) (fun K hK => ?_) fun K hK => ?_
    · skip
      refine sG Try.func93 #[.agg (pG A0 l0 c0 A1 l1 c1 a2 a3 a4),.agg #[.string s5,.string s6,.string s7]] ?_
      refine (HST.out X (HBW8.out.trans (HBc.out.mono HBW8.out.size))).mono ?_
      rintro e w14 ⟨rfl,hb⟩
      refine ⟨_,rfl,?_⟩
      replace HBc:=aq (HBc.out.trans (hb.mono HBc.out.size))
      clear hb
      refine hK.out _ _ ⟨(sC HBc.out z0),(sC HBc.out z1),(sC HBc.out z2),(sC HBc.out z3),(sC HBc.out z4),(sC HBc.out z5),(sC HBc.out z6),(sC HBc.out z7)⟩ (fun hHeld => ?_)
      clear hK K
      refine sN ?_
      refine sP (i:=7) (N:=some 39) ?_
      refine sP (i:=8) (N:=some 47) ?_
      refine sP (i:=9) (N:=some 48) ?_
      refine sO (i:=10) (N:=some 3) fun K hK => ?_
      refine value_ (w1:=?_) (v:=?_) (by rfl) rfl ?_ ?_
      rotate_left 2
      · go_simp
        constructor
        · rfl
        · rfl
      have HG4 : Aside0 (X.heap.size ≤ w14.heap.size):=⟨HBc.out.size⟩
      have hb : Below w14.heap.size w14 (w14.alloc (Obj.cells zR 25)):=below_alloc (Below.refl _ _) _
      replace HBc:=aq (HBc.out.trans (hb.mono HBc.out.size))
      have HT:=aq (World.alloc_heap_new w14 (Obj.cells zR 25))
      clear hb
      refine hK.out _ _ ⟨(sC HBc.out z0),(sC HBc.out z1),(sC HBc.out z2),(sC HBc.out z3),(sC HBc.out z4),(sC HBc.out z5),(sC HBc.out z6),(sC HBc.out z7)⟩ (fun hHeld => ?_)
      clear hK K
      refine sN ?_
      exact norm_ (by simp only [putAll,Act.put,List.setIfInBounds_toArray,List.set_cons_zero,List.set_cons_succ]) (hCont w14.heap.size _ ⟨HT.out,HBc.out,HG4.out⟩)
    · skip
      refine value_ (w1:=?_) (v:=?_) (by rfl) rfl ?_ ?_
      rotate_left 2
      · go_simp
        constructor
        · rfl
        · rfl
      have HG4 : Aside0 (X.heap.size ≤ X.heap.size):=⟨HBc.out.size⟩
      have hb : Below X.heap.size X (X.alloc (Obj.cells zR 25)):=below_alloc (Below.refl _ _) _
      replace HBc:=aq (HBc.out.trans (hb.mono HBc.out.size))
      have HT:=aq (World.alloc_heap_new X (Obj.cells zR 25))
      clear hb
      refine hK.out _ _ ⟨(sC HBc.out z0),(sC HBc.out z1),(sC HBc.out z2),(sC HBc.out z3),(sC HBc.out z4),(sC HBc.out z5),(sC HBc.out z6),(sC HBc.out z7)⟩ (fun hHeld => ?_)
      clear hK K
      refine sN ?_
      refine sO (i:=6) (N:=some 46) fun K hK => ?_
      refine sG Try.func93 #[.agg (pG A0 l0 c0 A1 l1 c1 a2 a3 a4),.agg #[.string s5,.string s6,.string s7]] ?_
      refine (HST.out (X.alloc (Obj.cells zR 25)) (HBW8.out.trans (HBc.out.mono HBW8.out.size))).mono ?_
      rintro e w14 ⟨rfl,hb⟩
      refine ⟨_,rfl,?_⟩
      replace HT:=aq (blk_below HT.out hb)
      replace HBc:=aq (HBc.out.trans (hb.mono HBc.out.size))
      clear hb
      refine hK.out _ _ ⟨(sC HBc.out z0),(sC HBc.out z1),(sC HBc.out z2),(sC HBc.out z3),(sC HBc.out z4),(sC HBc.out z5),(sC HBc.out z6),(sC HBc.out z7)⟩ (fun hHeld => ?_)
      clear hK K
      refine sN ?_
      refine sP (i:=7) (N:=some 39) ?_
      refine sP (i:=8) (N:=some 47) ?_
      refine sP (i:=9) (N:=some 48) ?_
      exact norm_ (by simp only [putAll,Act.put,List.setIfInBounds_toArray,List.set_cons_zero,List.set_cons_succ]) (hCont X.heap.size _ ⟨HT.out,HBc.out,HG4.out⟩)
  rintro t w17 ⟨hf,hb,hg⟩
  replace HBc:=aq hb
  have hHeld : w17.cell? ⟨g,0,none⟩ = some (.slice A0 l0.length c0) ∧ w17.cell? ⟨g,1,none⟩ = some (.slice A1 l1.length c1) ∧ w17.cell? ⟨g,2,none⟩ = some (.string a2) ∧ w17.cell? ⟨g,3,none⟩ = some (.string a3) ∧ w17.cell? ⟨g,4,none⟩ = some (.string a4) ∧ w17.cell? ⟨n,34,none⟩ = some (.string s5) ∧ w17.cell? ⟨n,35,none⟩ = some (.string s6) ∧ w17.cell? ⟨n,36,none⟩ = some (.string s7):=⟨(sC HBc.out z0),(sC HBc.out z1),(sC HBc.out z2),(sC HBc.out z3),(sC HBc.out z4),(sC HBc.out z5),(sC HBc.out z6),(sC HBc.out z7)⟩
  have HT:=aq hf
  have HG4:=aq hg
  clear hf hb hg
  obtain ⟨e0,e1,e2⟩:=cells3 HT.out
  have ef:=blk_frozen HT.out
  refine norm_ (a':=?_) ?_ ?_
  rotate_left
  · simp only [putAll,Act.put,List.setIfInBounds_toArray,List.set_cons_zero,List.set_cons_succ]
    rfl
  refine sX (i:=11) (N:=none) fun K hK => ?_
  refine skip_ (w1:=?_) (by rfl) rfl ?_ ?_
  rotate_left
  · go_simp
    rfl
  have hz:=set3_own HT.out (.string t0) (.string t1) (.string t2)
  have hb:=set3_belowA HBc.out HG4.out (.string t0) (.string t1) (.string t2)
  generalize (((w17.setCell ⟨t,0,none⟩ (.string t0)).setCell ⟨t,1,none⟩ (.string t1)).setCell ⟨t,2,none⟩ (.string t2)) = w18 at hz hb ⊢
  have HT8:=aq hz
  have HB18:=aq hb
  clear hz hb e0 e1 e2 ef
  refine hK.out _ _ ?_
  clear hK K
  refine sP (i:=12) (N:=some 4) ?_
  refine done_ (by kernel_rfl) ?_
  have HS18:=aq (HS4.out.below HB18.out)
  have HT18 : Aside0 (IvS w w18 base g (.slice A0 l0.length c0) (.slice A1 l1.length c1) (.string a2) (.string a3) (.string a4) m pc (.int .i64 19) (.int .i64 ia) (.int .i64 ib) (.int .i64 ic) (.int .i64 id) (.string s5) (.string s6) (.string s7) (.slice A8 ags.length c8) v v l t #[.string t0,.string t1,.string t2] 25):=⟨IvS.inner HM4.out HBW8.out HBz.out HB18.out HT8.out HG4.out⟩
  have HTN : Aside0 (t ≠ n):=⟨by have:=blk_lt HS4.out.hz;have:=HG4.out;omega⟩
  clear hHeld z0 z1 z2 z3 z4 z5 z6 z7 HM4 HBc HBW8 HT HB18 HT8 HG4 HST HST0 HS4
  cases ok
  · go_wp2_with fail
    exact bodyPost_ret (v:=.tuple #[]) (by simp [results,Try.results73,go_sem]) rfl (by first|exact ⟨_,[],rfl,(by rw [List.append_nil];exact HS18.out.hm),Nat.le_of_ble_eq_true rfl,asked_nil,HS18.out.hB,HS18.out.hK⟩|exact ⟨rfl,_,[],(by rw [List.append_nil];exact HS18.out.hm),Nat.le_of_ble_eq_true rfl,asked_nil,HS18.out.hB,HS18.out.hK⟩)
  have f0 : w18.cell? ⟨t,0,none⟩ = some (.string t0):=blk_cell HT18.out.hz 0
  go_wp2_with fail
  refine (maker_begins base g (.slice A0 l0.length c0) (.slice A1 l1.length c1) (.string a2) (.string a3) (.string a4) m pc (.int .i64 19) (.int .i64 ia) (.int .i64 ib) (.int .i64 ic) (.int .i64 id) (.string s5) (.string s6) (.string s7) (.slice A8 ags.length c8) v l t0 w18 HS18.out.hm (by have:=HL.out;(try simp only [List.length_append,List.length_cons,List.length_nil]);omega) HS18.out.hs).mono ?_
  rintro e w19 ⟨v19,rfl,hm,hb,hk⟩
  have HS19:=aq (HS18.out.put hm hb hk)
  have HT19:=aq (HT18.out.put hm hb hk)
  clear hm hb hk f0
  have HS : Aside0 (IvS w w19.drew base g (.slice A0 l0.length c0) (.slice A1 l1.length c1) (.string a2) (.string a3) (.string a4) m pc (.int .i64 19) (.int .i64 ia) (.int .i64 ib) (.int .i64 ic) (.int .i64 id) (.string s5) (.string s6) (.string s7) (.slice A8 ags.length c8) v v19 (l ++ [(⟨7,pc,z50,z50,⟨m,0,⟨#[]⟩⟩,z44,t0,z25,noSl⟩ : CV)]) n (List.toArray ((kK 10 0 (qL pa (qZ (sZ (fZ (kS ⟨#[]⟩ (mS s5 s6 s7 [.slice AC ags.length cC]))))))))) 60):=⟨HS19.out.below (below_drew1 (Below.refl _ _))⟩
  have z0 : w19.drew.cell? ⟨t,0,none⟩ = some (.string t0):=blk_cell HT19.out.hz 0
  have z1 : w19.drew.cell? ⟨t,1,none⟩ = some (.string t1):=blk_cell HT19.out.hz 1
  have z2 : w19.drew.cell? ⟨t,2,none⟩ = some (.string t2):=blk_cell HT19.out.hz 2
  have n0 : w19.drew.cell? ⟨n,0,none⟩ = some (.int .i64 10):=blk_cell HS.out.hz 0
  have nf:=blk_frozen HS.out.hz 0
  go_wp2_with fail
  refine start_ (n:=5) (S:=fun w' => w'.cell? ⟨t,0,none⟩ = some (.string t0) ∧ w'.cell? ⟨t,1,none⟩ = some (.string t1) ∧ w'.cell? ⟨t,2,none⟩ = some (.string t2)) (ds:=[4]) (Array.replicate 5 false) (by kernel_rfl) rfl rfl ⟨z0,z1,z2⟩ (fun hHeld => ?_)
  generalize w19.drew = X at HS n0 nf z0 z1 z2 hHeld ⊢
  refine sP (i:=1) (N:=some 56) ?_
  refine sT (i:=0) (N:=some 55) hHeld ?_
  refine sO (i:=2) (N:=none) fun K hK => ?_
  refine skip_ (w1:=?_) (by rfl) rfl ?_ ?_
  rotate_left
  · go_simp
    rfl
  have HS2:=aq (HS.out.set1 HN0.out HBz.out 0 (.int .i64 9) (cs':=(List.toArray ((kK 9 0 (qL pa (qZ (sZ (fZ (kS ⟨#[]⟩ (mS s5 s6 s7 [.slice AC ags.length cC])))))))))) (by kernel_rfl))
  have q0:=cell_far (p:=⟨n,0,none⟩) (a:=⟨t,0,none⟩) HTN.out (.int .i64 9) |>.trans z0
  have q1:=cell_far (p:=⟨n,0,none⟩) (a:=⟨t,1,none⟩) HTN.out (.int .i64 9) |>.trans z1
  have q2:=cell_far (p:=⟨n,0,none⟩) (a:=⟨t,2,none⟩) HTN.out (.int .i64 9) |>.trans z2
  generalize X.setCell ⟨n,0,none⟩ (.int .i64 9) = X2 at HS2 q0 q1 q2 ⊢
  clear n0 nf
  refine hK.out _ _ ⟨q0,q1,q2⟩ (fun hHeld => ?_)
  clear hK K
  refine sP (i:=3) (N:=some 57) ?_
  refine sX (i:=4) (N:=none) fun K hK => ?_
  refine step_store_blk HS2.out.hz 25 _ _ 34 3 [.string t0,.string t1,.string t2] (by rfl) rfl rfl rfl rfl rfl (show 37 ≤ 38 from Nat.le_succ 37) (by kernel_rfl) rfl (cs':=(List.toArray ((kK 9 0 (qL pa (qZ (sZ (fZ (kS ⟨#[]⟩ (mS t0 t1 t2 [.slice AC ags.length cC])))))))))) (by kernel_rfl) ?_
  intro w20 hq hB hF hsz
  have HS20:=aq (HS2.out.store HN0.out HBz.out hq hB hF hsz)
  clear hq hB hF hsz
  refine hK.out _ _ ?_
  clear hK K
  refine done_ (by kernel_rfl) ?_
  go_wp2_with (first
    | (refine wpList_load_blk HS20.out.hz 60 _ 0 38 ((kK 9 0 (qL pa (qZ (sZ (fZ (kS ⟨#[]⟩ (mS t0 t1 t2 [.slice AC ags.length cC])))))))) _ rfl rfl rfl rfl (by kernel_rfl) Try.underlying60 rfl (by kernel_rfl) ?_)
    | fail)
  refine (put_plain base g (.slice A0 l0.length c0) (.slice A1 l1.length c1) (.string a2) (.string a3) (.string a4) m pc (.int .i64 19) (.int .i64 ia) (.int .i64 ib) (.int .i64 ic) (.int .i64 id) (.string s5) (.string s6) (.string s7) (.slice A8 ags.length c8) v19 (l ++ [(⟨7,pc,z50,z50,⟨m,0,⟨#[]⟩⟩,z44,t0,z25,noSl⟩ : CV)]) (⟨9,0,pa,z50,⟨z25,0,⟨#[]⟩⟩,z44,⟨#[]⟩,⟨t0,t1,t2⟩,(AC,ags.length,cC)⟩ : CV) w20 HS20.out.hm (show (9 : Int) ≠ 1 by decide) (by have:=HL.out;(try simp only [List.length_append,List.length_cons,List.length_nil]);omega) HS20.out.hs).mono ?_
  rintro e w21 ⟨v21,rfl,hm,hb,hk⟩
  have HS21:=aq (HS20.out.put hm hb hk)
  clear hm hb hk
  try simp only [List.append_assoc,List.cons_append,List.nil_append] at HS21
  go_wp2_with fail
  exact bodyPost_end (v:=.tuple #[]) (by simp [results,Try.results73,go_sem]) rfl (by first|exact ⟨_,[(⟨7,pc,z50,z50,⟨m,0,⟨#[]⟩⟩,z44,t0,z25,noSl⟩ : CV),(⟨9,pc,pa,z50,⟨m,0,⟨#[]⟩⟩,z44,⟨#[]⟩,⟨t0,t1,t2⟩,(AC,ags.length,cC)⟩ : CV)],rfl,HS21.out.hm,Nat.le_of_ble_eq_true rfl,(asked_cons rfl rfl (fun h => absurd (show (0 : Int) = 1 from h) (by decide)) (fun h => absurd (show (0 : Int) = 1 from h) (by decide)) (asked_ans (s:=s7) rfl rfl HPA.out.symm (by simp [usesR]) (fun h => absurd (show (0 : Int) = 1 from h) (by decide)) asked_nil)),HS21.out.hB,HS21.out.hK⟩|exact ⟨rfl,_,[(⟨7,pc,z50,z50,⟨m,0,⟨#[]⟩⟩,z44,t0,z25,noSl⟩ : CV),(⟨9,pc,pa,z50,⟨m,0,⟨#[]⟩⟩,z44,⟨#[]⟩,⟨t0,t1,t2⟩,(AC,ags.length,cC)⟩ : CV)],HS21.out.hm,Nat.le_of_ble_eq_true rfl,(asked_cons rfl rfl (fun h => absurd (show (0 : Int) = 1 from h) (by decide)) (fun h => absurd (show (0 : Int) = 1 from h) (by decide)) (asked_ans (s:=s7) rfl rfl HPA.out.symm (by simp [usesR]) (fun h => absurd (show (0 : Int) = 1 from h) (by decide)) asked_nil)),HS21.out.hB,HS21.out.hK⟩)
theorem mk_call20 (base g : Nat) (A0 : Option Addr) (c0 : Nat) (l0 : List S33) (A1 : Option Addr) (c1 : Nat) (l1 : List ByteArray) (a2 a3 a4 : ByteArray) (m : S25) (pc : Int) (ia ib ic id : Int) (s5 s6 s7 : ByteArray) (A8 : Option Addr) (c8 : Nat) (ags : List Int) (v : Value) (l : List CV) (w : World) (hm : MkOwn w base g (.slice A0 l0.length c0) (.slice A1 l1.length c1) (.string a2) (.string a3) (.string a4) m pc (.int .i64 20) (.int .i64 ia) (.int .i64 ib) (.int .i64 ic) (.int .i64 id) (.string s5) (.string s6) (.string s7) (.slice A8 ags.length c8) v l) (hl : l.length + 2 ≤ 1048576) (hbz : base ≤ w.heap.size) (hr0 : Kd.C k33 w A0 l0.length l0) (hc0 : l0.length ≤ c0) (hr1 : Kd.C Kd.string w A1 l1.length l1) (hc1 : l1.length ≤ c1) (hM : MaxL w) (hs7 : s7.size ≤ 1048576) (hC8 : Kd.C (Kd.int .i64) w A8 ags.length ags) (hc8 : ags.length ≤ c8) (hag : ags.length ≤ 1048576) :
    Calls Try.prog 73 #[.pointer (some ⟨g,0,none⟩)] w fun e w' => ∃ v' ins,e = .returned (.tuple #[]) ∧ MkOwn w' base g (.slice A0 l0.length c0) (.slice A1 l1.length c1) (.string a2) (.string a3) (.string a4) m pc (.int .i64 20) (.int .i64 ia) (.int .i64 ib) (.int .i64 ic) (.int .i64 id) (.string s5) (.string s6) (.string s7) (.slice A8 ags.length c8) v' (l ++ ins) ∧ ins.length ≤ 3 ∧ Asked m pc (⟨20,ia,ib,ic,id,s5,s6,s7,ags⟩ : S74) ins ((!ags.isEmpty) && ansB s7) ∧ Below base w w' ∧ Kp w w' g v v':=by
  have HXB : Aside0 (Below w.heap.size w w.drew):=⟨below_drew1 (Below.refl _ _)⟩
  obtain ⟨pa,hpa⟩ : ∃ pa,ansP m ia s7 = pa:=⟨_,rfl⟩
  have HPA:=aq hpa
  have HM0 : Aside0 (MkOwn w.drew base g (.slice A0 l0.length c0) (.slice A1 l1.length c1) (.string a2) (.string a3) (.string a4) m pc (.int .i64 20) (.int .i64 ia) (.int .i64 ib) (.int .i64 ic) (.int .i64 id) (.string s5) (.string s6) (.string s7) (.slice A8 ags.length c8) v l):=⟨hm.below HXB.out hbz⟩
  have HAN : Aside0 (∀ W,Below w.drew.heap.size w.drew W → Calls Try.prog 91 #[.pointer (some ⟨g,0,none⟩)] W fun e w' => e = .returned (.agg (List.toArray (qL pa []))) ∧ Below W.heap.size W w'):=⟨fun W hW => by
    have h:=mk_answer g (.slice A0 l0.length c0) (.slice A1 l1.length c1) (.string a2) (.string a3) (.string a4) m pc (.int .i64 20) ia (.int .i64 ib) (.int .i64 ic) (.int .i64 id) (.string s5) (.string s6) s7 (.slice A8 ags.length c8) v W (blk_below HM0.out.b hW) (max_below hM (HXB.out.trans (hW.mono HXB.out.size))) hs7
    rw [hpa] at h
    exact h⟩
  have HCN : Aside0 (∀ W,Below w.drew.heap.size w.drew W → Calls Try.prog 92 #[.slice A8 ags.length c8] W fun e w' => ∃ v0_ : Value,e = .returned v0_ ∧ Kd.R (Kd.int .i64) 3 w' W.heap.size (fun _ => True) v0_ ags ∧ Below W.heap.size W w'):=⟨fun W hW => slices_Clone_int_int.calls A8 c8 ags ags W (Kd.C_below hC8 (HXB.out.trans (hW.mono HXB.out.size))) hc8 (if_pos hag)⟩
  have HBc : Aside0 (Below w.drew.heap.size w.drew w.drew):=⟨Below.refl _ _⟩
  have HBz:=aq hbz
  have HL:=aq hl
  have HAG:=aq hag
  clear hm hl hbz hr0 hr1 hM hs7 hC8 hag hpa
  have z0 : w.drew.cell? ⟨g,14,none⟩ = some (.string s5):=blk_cell HM0.out.b 14
  have z1 : w.drew.cell? ⟨g,15,none⟩ = some (.string s6):=blk_cell HM0.out.b 15
  have z2 : w.drew.cell? ⟨g,16,none⟩ = some (.string s7):=blk_cell HM0.out.b 16
  have z3 : w.drew.cell? ⟨g,17,none⟩ = some (.slice A8 ags.length c8):=blk_cell HM0.out.b 17
  go_enter Try.func73,Try.ntmps73
  go_wp2_with fail
  refine start_ (n:=27) (S:=fun w' => w'.cell? ⟨g,14,none⟩ = some (.string s5) ∧ w'.cell? ⟨g,15,none⟩ = some (.string s6) ∧ w'.cell? ⟨g,16,none⟩ = some (.string s7) ∧ w'.cell? ⟨g,17,none⟩ = some (.slice A8 ags.length c8)) (ds:=[26]) (Array.replicate 27 false) (by kernel_rfl) rfl rfl ⟨z0,z1,z2,z3⟩ (fun hHeld => ?_)
  generalize w.drew = X at HM0 HAN HCN HBc HXB z0 z1 z2 z3 hHeld ⊢
  refine sP (i:=0) (N:=some 5) ?_
  refine sP (i:=2) (N:=some 7) ?_
  refine sP (i:=3) (N:=some 8) ?_
  refine sP (i:=4) (N:=some 9) ?_
  refine sP (i:=5) (N:=some 10) ?_
  refine sP (i:=7) (N:=some 12) ?_
  refine sP (i:=8) (N:=some 13) ?_
  refine sP (i:=9) (N:=some 14) ?_
  refine sP (i:=10) (N:=some 15) ?_
  refine sP (i:=12) (N:=some 17) ?_
  refine sP (i:=13) (N:=some 18) ?_
  refine sP (i:=14) (N:=some 19) ?_
  refine sP (i:=15) (N:=some 20) ?_
  refine sP (i:=18) (N:=some 23) ?_
  refine sP (i:=19) (N:=some 24) ?_
  refine sP (i:=20) (N:=some 25) ?_
  refine sP (i:=21) (N:=some 26) ?_
  refine sT (i:=6) (N:=some 11) hHeld ?_
  refine sT (i:=11) (N:=some 16) hHeld ?_
  refine sT (i:=16) (N:=some 21) hHeld ?_
  refine sP (i:=17) (N:=some 22) ?_
  refine sT (i:=22) (N:=some 27) hHeld ?_
  refine join_ (σ:=Nat × Option Addr × Nat) 1 #[true,true,true,true,true,true,true,true,true,true,true,true,true,true,true,true,true,true,true,true,true,true,true,true,true,true,false] (fun s => [(6,.agg (List.toArray (qL pa []))),(28,.slice s.2.1 ags.length s.2.2),(29,.agg (List.toArray ((kK 10 0 (qL pa (qZ (sZ (fZ (kS ⟨#[]⟩ (mS s5 s6 s7 [.slice s.2.1 ags.length s.2.2])))))))))),(2,.pointer (some ⟨s.1,0,none⟩))]) (fun s w' => w'.heap[s.1]? = some (Obj.cells (List.toArray ((kK 0 0 (qZ (qZ (sZ (fZ (kS ⟨#[]⟩ (mZ [.slice none 0 0]))))))))) 60 (0,0)) ∧ Below X.heap.size X w' ∧ X.heap.size ≤ s.1 ∧ Kd.R (Kd.int .i64) 3 w' 0 (fun _ => True) (.slice s.2.1 ags.length s.2.2) ags) ?_ ?_
  rotate_left
  · intro hCont
    refine sW (i:=1) (j:=25) (Ni:=some 6) (Nj:=some 2) (fun K hK => ?_) fun K hK => ?_
    · skip
      refine sG Try.func91 #[.pointer (some ⟨g,0,none⟩)] ?_
      refine (HAN.out X HBc.out).mono ?_
      rintro e w1 ⟨rfl,hb⟩
      refine ⟨_,rfl,?_⟩
      replace HBc:=aq (HBc.out.trans (hb.mono HBc.out.size))
      clear hb
      refine hK.out _ _ ⟨(sC HBc.out z0),(sC HBc.out z1),(sC HBc.out z2),(sC HBc.out z3)⟩ (fun hHeld => ?_)
      clear hK K
      refine sN ?_
      refine sW (i:=23) (j:=25) (Ni:=some 28) (Nj:=some 2) (fun K hK => ?_) fun K hK => ?_
      · skip
        refine sG Try.func92 #[.slice A8 ags.length c8] ?_
        refine (HCN.out w1 HBc.out).mono ?_
        rintro e w23 ⟨vC,rfl,hR,hb⟩
        obtain ⟨AC,cC,hvC⟩:=Kd.R_slice hR
        subst hvC
        refine ⟨_,rfl,?_⟩
        replace HBc:=aq (HBc.out.trans (hb.mono HBc.out.size))
        have HCL:=aq (Kd.R_lower hR (Nat.zero_le _))
        clear hb hR
        refine hK.out _ _ ⟨(sC HBc.out z0),(sC HBc.out z1),(sC HBc.out z2),(sC HBc.out z3)⟩ (fun hHeld => ?_)
        clear hK K
        refine sN ?_
        refine sP (i:=24) (N:=some 29) ?_
        refine sO (i:=25) (N:=some 2) fun K hK => ?_
        refine value_ (w1:=?_) (v:=?_) (by rfl) rfl ?_ ?_
        rotate_left 2
        · go_simp
          constructor
          · rfl
          · rfl
        have HG : Aside0 (X.heap.size ≤ w23.heap.size):=⟨HBc.out.size⟩
        have hb : Below w23.heap.size w23 (w23.alloc (Obj.cells (List.toArray ((kK 0 0 (qZ (qZ (sZ (fZ (kS ⟨#[]⟩ (mZ [.slice none 0 0]))))))))) 60)):=below_alloc (Below.refl _ _) _
        replace HCL:=aq (Kd.R_below HCL.out hb)
        replace HBc:=aq (HBc.out.trans (hb.mono HBc.out.size))
        have HF:=aq (World.alloc_heap_new w23 (Obj.cells (List.toArray ((kK 0 0 (qZ (qZ (sZ (fZ (kS ⟨#[]⟩ (mZ [.slice none 0 0]))))))))) 60))
        clear hb
        refine hK.out _ _ ⟨(sC HBc.out z0),(sC HBc.out z1),(sC HBc.out z2),(sC HBc.out z3)⟩ (fun hHeld => ?_)
        clear hK K
        refine sN ?_
        exact norm_ (by simp only [putAll,Act.put,List.setIfInBounds_toArray,List.set_cons_zero,List.set_cons_succ]) (hCont (w23.heap.size,AC,cC) _ ⟨HF.out,HBc.out,HG.out,HCL.out⟩)
      · skip
        refine value_ (w1:=?_) (v:=?_) (by rfl) rfl ?_ ?_
        rotate_left 2
        · go_simp
          constructor
          · rfl
          · rfl
        have HG : Aside0 (X.heap.size ≤ w1.heap.size):=⟨HBc.out.size⟩
        have hb : Below w1.heap.size w1 (w1.alloc (Obj.cells (List.toArray ((kK 0 0 (qZ (qZ (sZ (fZ (kS ⟨#[]⟩ (mZ [.slice none 0 0]))))))))) 60)):=below_alloc (Below.refl _ _) _
        replace HBc:=aq (HBc.out.trans (hb.mono HBc.out.size))
        have HF:=aq (World.alloc_heap_new w1 (Obj.cells (List.toArray ((kK 0 0 (qZ (qZ (sZ (fZ (kS ⟨#[]⟩ (mZ [.slice none 0 0]))))))))) 60))
        clear hb
        refine hK.out _ _ ⟨(sC HBc.out z0),(sC HBc.out z1),(sC HBc.out z2),(sC HBc.out z3)⟩ (fun hHeld => ?_)
        clear hK K
        refine sN ?_
        refine sO (i:=23) (N:=some 28) fun K hK => ?_
        refine sG Try.func92 #[.slice A8 ags.length c8] ?_
        refine (HCN.out (w1.alloc (Obj.cells (List.toArray ((kK 0 0 (qZ (qZ (sZ (fZ (kS ⟨#[]⟩ (mZ [.slice none 0 0]))))))))) 60)) HBc.out).mono ?_
        rintro e w23 ⟨vC,rfl,hR,hb⟩
        obtain ⟨AC,cC,hvC⟩:=Kd.R_slice hR
        subst hvC
        refine ⟨_,rfl,?_⟩
        replace HF:=aq (blk_below HF.out hb)
        replace HBc:=aq (HBc.out.trans (hb.mono HBc.out.size))
        have HCL:=aq (Kd.R_lower hR (Nat.zero_le _))
        clear hb hR
        refine hK.out _ _ ⟨(sC HBc.out z0),(sC HBc.out z1),(sC HBc.out z2),(sC HBc.out z3)⟩ (fun hHeld => ?_)
        clear hK K
        refine sN ?_
        refine sP (i:=24) (N:=some 29) ?_
        exact norm_ (by simp only [putAll,Act.put,List.setIfInBounds_toArray,List.set_cons_zero,List.set_cons_succ]) (hCont (w1.heap.size,AC,cC) _ ⟨HF.out,HBc.out,HG.out,HCL.out⟩)
    · skip
      refine value_ (w1:=?_) (v:=?_) (by rfl) rfl ?_ ?_
      rotate_left 2
      · go_simp
        constructor
        · rfl
        · rfl
      have HG : Aside0 (X.heap.size ≤ X.heap.size):=⟨HBc.out.size⟩
      have hb : Below X.heap.size X (X.alloc (Obj.cells (List.toArray ((kK 0 0 (qZ (qZ (sZ (fZ (kS ⟨#[]⟩ (mZ [.slice none 0 0]))))))))) 60)):=below_alloc (Below.refl _ _) _
      replace HBc:=aq (HBc.out.trans (hb.mono HBc.out.size))
      have HF:=aq (World.alloc_heap_new X (Obj.cells (List.toArray ((kK 0 0 (qZ (qZ (sZ (fZ (kS ⟨#[]⟩ (mZ [.slice none 0 0]))))))))) 60))
      clear hb
      refine hK.out _ _ ⟨(sC HBc.out z0),(sC HBc.out z1),(sC HBc.out z2),(sC HBc.out z3)⟩ (fun hHeld => ?_)
      clear hK K
      refine sN ?_
      refine sO (i:=1) (N:=some 6) fun K hK => ?_
      refine sG Try.func91 #[.pointer (some ⟨g,0,none⟩)] ?_
      refine (HAN.out (X.alloc (Obj.cells (List.toArray ((kK 0 0 (qZ (qZ (sZ (fZ (kS ⟨#[]⟩ (mZ [.slice none 0 0]))))))))) 60)) HBc.out).mono ?_
      rintro e w1 ⟨rfl,hb⟩
      refine ⟨_,rfl,?_⟩
      replace HF:=aq (blk_below HF.out hb)
      replace HBc:=aq (HBc.out.trans (hb.mono HBc.out.size))
      clear hb
      refine hK.out _ _ ⟨(sC HBc.out z0),(sC HBc.out z1),(sC HBc.out z2),(sC HBc.out z3)⟩ (fun hHeld => ?_)
      clear hK K
      refine sN ?_
      refine sO (i:=23) (N:=some 28) fun K hK => ?_
      refine sG Try.func92 #[.slice A8 ags.length c8] ?_
      refine (HCN.out w1 HBc.out).mono ?_
      rintro e w23 ⟨vC,rfl,hR,hb⟩
      obtain ⟨AC,cC,hvC⟩:=Kd.R_slice hR
      subst hvC
      refine ⟨_,rfl,?_⟩
      replace HF:=aq (blk_below HF.out hb)
      replace HBc:=aq (HBc.out.trans (hb.mono HBc.out.size))
      have HCL:=aq (Kd.R_lower hR (Nat.zero_le _))
      clear hb hR
      refine hK.out _ _ ⟨(sC HBc.out z0),(sC HBc.out z1),(sC HBc.out z2),(sC HBc.out z3)⟩ (fun hHeld => ?_)
      clear hK K
      refine sN ?_
      refine sP (i:=24) (N:=some 29) ?_
      exact norm_ (by simp only [putAll,Act.put,List.setIfInBounds_toArray,List.set_cons_zero,List.set_cons_succ]) (hCont (X.heap.size,AC,cC) _ ⟨HF.out,HBc.out,HG.out,HCL.out⟩)
  rintro ⟨n,AC,cC⟩ w7 ⟨hf,hb,hg,hcl⟩
  replace HBc:=aq hb
  have hHeld : w7.cell? ⟨g,14,none⟩ = some (.string s5) ∧ w7.cell? ⟨g,15,none⟩ = some (.string s6) ∧ w7.cell? ⟨g,16,none⟩ = some (.string s7) ∧ w7.cell? ⟨g,17,none⟩ = some (.slice A8 ags.length c8):=⟨(sC HBc.out z0),(sC HBc.out z1),(sC HBc.out z2),(sC HBc.out z3)⟩
  have HF:=aq hf
  have HG:=aq hg
  have HCL:=aq hcl
  clear hf hb hg hcl
  refine norm_ (a':=?_) ?_ ?_
  rotate_left
  · simp only [putAll,Act.put,List.setIfInBounds_toArray,List.set_cons_zero,List.set_cons_succ]
    rfl
  refine sX (i:=26) (N:=none) fun K hK => ?_
  refine step_store_blk HF.out 60 _ _ 0 38 ((kK 10 0 (qL pa (qZ (sZ (fZ (kS ⟨#[]⟩ (mS s5 s6 s7 [.slice AC ags.length cC])))))))) (by rfl) rfl rfl rfl rfl rfl (show 38 ≤ 38 from Nat.le_refl 38) (by kernel_rfl) rfl (cs':=(List.toArray ((kK 10 0 (qL pa (qZ (sZ (fZ (kS ⟨#[]⟩ (mS s5 s6 s7 [.slice AC ags.length cC])))))))))) (by kernel_rfl) ?_
  intro w8 hq hB hF hsz
  have HZ8:=aq hq
  have HB8:=aq (hB _ _ HG.out HBc.out)
  have HC8:=aq (R_storefar HCL.out HF.out hF)
  clear hq hB hF hsz
  refine hK.out _ _ ?_
  clear hK K
  refine done_ (by kernel_rfl) ?_
  have HS8 : Aside0 (IvS w w8 base g (.slice A0 l0.length c0) (.slice A1 l1.length c1) (.string a2) (.string a3) (.string a4) m pc (.int .i64 20) (.int .i64 ia) (.int .i64 ib) (.int .i64 ic) (.int .i64 id) (.string s5) (.string s6) (.string s7) (.slice A8 ags.length c8) v v l n (List.toArray ((kK 10 0 (qL pa (qZ (sZ (fZ (kS ⟨#[]⟩ (mS s5 s6 s7 [.slice AC ags.length cC]))))))))) 60):=⟨IvS.inner HM0.out HXB.out HBz.out HB8.out HZ8.out HG.out⟩
  have HN0 : Aside0 (w.heap.size ≤ n):=⟨Nat.le_trans HXB.out.size HG.out⟩
  have HBW8 : Aside0 (Below w.heap.size w w8):=⟨HXB.out.trans (HB8.out.mono HXB.out.size)⟩
  clear hHeld z0 z1 z2 z3 HM0 HBc HXB HF HCL HB8 HZ8 HG HAN HCN
  have k9 : w8.cell? ⟨g,9,none⟩ = some (.int .i64 20):=blk_cell HS8.out.hm.b 9
  have k37 : w8.cell? ⟨n,37,none⟩ = some (.slice AC ags.length cC):=blk_cell HS8.out.hz 37
  by_cases hag0 : ags = []
  · subst hag0
    go_wp2_with fail
    exact bodyPost_ret (v:=.tuple #[]) (by simp [results,Try.results73,go_sem]) rfl (by first|exact ⟨_,[],rfl,(by rw [List.append_nil];exact HS8.out.hm),Nat.le_of_ble_eq_true rfl,asked_nil,HS8.out.hB,HS8.out.hK⟩|exact ⟨rfl,_,[],(by rw [List.append_nil];exact HS8.out.hm),Nat.le_of_ble_eq_true rfl,asked_nil,HS8.out.hB,HS8.out.hK⟩)
  have hpn : 0 < ags.length:=List.length_pos_iff.2 hag0
  have HE : Aside0 (ags.isEmpty = false):=⟨by cases ags with|nil => exact absurd rfl hag0|cons a b => rfl⟩
  have hne : ((ags.length : Int) == 0) = false:=beq_eq_false_iff_ne.2 (by omega)
  have hpos : (0 : Int) < (ags.length : Int):=by omega
  clear hag0
  obtain ⟨_,hcC,hCC⟩:=Kd.R_reads' HC8.out
  obtain ⟨ad,hA,hx0⟩:=int_at hCC 0 hpn
  subst hA
  rw [show ad.add 0 = ad from by unfold Addr.add;simp] at hx0
  obtain ⟨x0,hxe⟩ : ∃ x0,ags.getD 0 0 = x0:=⟨_,rfl⟩
  have HX0 : Aside0 (x0 ∈ ags):=⟨by
    rw [← hxe,List.getD_eq_getElem?_getD,List.getElem?_eq_getElem hpn]
    exact List.getElem_mem hpn⟩
  rw [hxe] at hx0
  have hadn : ad.block ≠ n:=R_not HC8.out HS8.out.hz
  clear hcC hCC hxe
  go_wp2_with fail
  refine (maker_reg g (.slice A0 l0.length c0) (.slice A1 l1.length c1) (.string a2) (.string a3) (.string a4) m pc (.int .i64 20) (.int .i64 ia) (.int .i64 ib) (.int .i64 ic) (.int .i64 id) (.string s5) (.string s6) (.string s7) (.slice A8 ags.length c8) v x0 w8 HS8.out.hm.b).mono ?_
  rintro e w10 ⟨rfl,hb⟩
  have HS10:=aq (HS8.out.below hb)
  clear hb k9 k37 hx0
  go_wp2_with (first
    | (refine wpList_store_blk HS10.out.hz 50 _ _ 14 12 [.int .i64 1,.string m.f0,.string m.f1,.string m.f2,.int .i64 x0,.string ⟨#[]⟩,.string ⟨#[]⟩,.string ⟨#[]⟩,.string ⟨#[]⟩,.string ⟨#[]⟩,.int .i64 0,.string ⟨#[]⟩] rfl rfl rfl rfl rfl (show 26 ≤ 38 from Nat.le_add_right 26 12) (by kernel_rfl) rfl (cs':=(List.toArray ((kK 10 0 (qL pa (qR 1 m x0 (sZ (fZ (kS ⟨#[]⟩ (mS s5 s6 s7 [.slice (some ad) ags.length cC])))))))))) (by kernel_rfl) ?_;intro w11 hq hB hF hsz;have HS11:=aq (HS10.out.store HN0.out HBz.out hq hB hF hsz);clear hq hB hF hsz)
    | (refine wpList_load_blk HS11.out.hz 60 _ 0 38 ((kK 10 0 (qL pa (qR 1 m x0 (sZ (fZ (kS ⟨#[]⟩ (mS s5 s6 s7 [.slice (some ad) ags.length cC])))))))) _ rfl rfl rfl rfl (by kernel_rfl) Try.underlying60 rfl (by kernel_rfl) ?_)
    | fail)
  refine (put_plain base g (.slice A0 l0.length c0) (.slice A1 l1.length c1) (.string a2) (.string a3) (.string a4) m pc (.int .i64 20) (.int .i64 ia) (.int .i64 ib) (.int .i64 ic) (.int .i64 id) (.string s5) (.string s6) (.string s7) (.slice A8 ags.length c8) v l (⟨10,0,pa,(⟨1,m,x0,z44,z46⟩ : S50),⟨z25,0,⟨#[]⟩⟩,z44,⟨#[]⟩,⟨s5,s6,s7⟩,(some ad,ags.length,cC)⟩ : CV) w11 HS11.out.hm (show (10 : Int) ≠ 1 by decide) (by have:=HL.out;(try simp only [List.length_append,List.length_cons,List.length_nil]);omega) HS11.out.hs).mono ?_
  rintro e w12 ⟨v12,rfl,hm,hb,hk⟩
  have HS12:=aq (HS11.out.put hm hb hk)
  clear hm hb hk
  go_wp2_with fail
  exact bodyPost_end (v:=.tuple #[]) (by simp [results,Try.results73,go_sem]) rfl (by first|exact ⟨_,[(⟨10,pc,pa,(⟨1,m,x0,z44,z46⟩ : S50),⟨m,0,⟨#[]⟩⟩,z44,⟨#[]⟩,⟨s5,s6,s7⟩,(some ad,ags.length,cC)⟩ : CV)],rfl,HS12.out.hm,Nat.le_of_ble_eq_true rfl,(by rw [HE.out];exact (asked_ans (s:=s7) rfl rfl HPA.out.symm (by simp [usesR]) (fun _ => ⟨rfl,by rw [show usesR (⟨20,ia,ib,ic,id,s5,s6,s7,ags⟩ : S74) = ia :: ags from by simp [usesR]];exact List.mem_cons_of_mem _ HX0.out⟩) asked_nil)),HS12.out.hB,HS12.out.hK⟩|exact ⟨rfl,_,[(⟨10,pc,pa,(⟨1,m,x0,z44,z46⟩ : S50),⟨m,0,⟨#[]⟩⟩,z44,⟨#[]⟩,⟨s5,s6,s7⟩,(some ad,ags.length,cC)⟩ : CV)],HS12.out.hm,Nat.le_of_ble_eq_true rfl,(by rw [HE.out];exact (asked_ans (s:=s7) rfl rfl HPA.out.symm (by simp [usesR]) (fun _ => ⟨rfl,by rw [show usesR (⟨20,ia,ib,ic,id,s5,s6,s7,ags⟩ : S74) = ia :: ags from by simp [usesR]];exact List.mem_cons_of_mem _ HX0.out⟩) asked_nil)),HS12.out.hB,HS12.out.hK⟩)
theorem mk_call21 (base g : Nat) (A0 : Option Addr) (c0 : Nat) (l0 : List S33) (A1 : Option Addr) (c1 : Nat) (l1 : List ByteArray) (a2 a3 a4 : ByteArray) (m : S25) (pc : Int) (ia ib ic id : Int) (s5 s6 s7 : ByteArray) (A8 : Option Addr) (c8 : Nat) (ags : List Int) (v : Value) (l : List CV) (w : World) (hm : MkOwn w base g (.slice A0 l0.length c0) (.slice A1 l1.length c1) (.string a2) (.string a3) (.string a4) m pc (.int .i64 21) (.int .i64 ia) (.int .i64 ib) (.int .i64 ic) (.int .i64 id) (.string s5) (.string s6) (.string s7) (.slice A8 ags.length c8) v l) (hl : l.length + 2 ≤ 1048576) (hbz : base ≤ w.heap.size) (hr0 : Kd.C k33 w A0 l0.length l0) (hc0 : l0.length ≤ c0) (hr1 : Kd.C Kd.string w A1 l1.length l1) (hc1 : l1.length ≤ c1) (hM : MaxL w) (hs7 : s7.size ≤ 1048576) (hC8 : Kd.C (Kd.int .i64) w A8 ags.length ags) (hc8 : ags.length ≤ c8) (hag : ags.length ≤ 1048576) :
    Calls Try.prog 73 #[.pointer (some ⟨g,0,none⟩)] w fun e w' => ∃ v' ins,e = .returned (.tuple #[]) ∧ MkOwn w' base g (.slice A0 l0.length c0) (.slice A1 l1.length c1) (.string a2) (.string a3) (.string a4) m pc (.int .i64 21) (.int .i64 ia) (.int .i64 ib) (.int .i64 ic) (.int .i64 id) (.string s5) (.string s6) (.string s7) (.slice A8 ags.length c8) v' (l ++ ins) ∧ ins.length ≤ 3 ∧ Asked m pc (⟨21,ia,ib,ic,id,s5,s6,s7,ags⟩ : S74) ins ((!ags.isEmpty) && ansB s7) ∧ Below base w w' ∧ Kp w w' g v v':=by
  have HXB : Aside0 (Below w.heap.size w w.drew):=⟨below_drew1 (Below.refl _ _)⟩
  obtain ⟨pa,hpa⟩ : ∃ pa,ansP m ia s7 = pa:=⟨_,rfl⟩
  have HPA:=aq hpa
  have HM0 : Aside0 (MkOwn w.drew base g (.slice A0 l0.length c0) (.slice A1 l1.length c1) (.string a2) (.string a3) (.string a4) m pc (.int .i64 21) (.int .i64 ia) (.int .i64 ib) (.int .i64 ic) (.int .i64 id) (.string s5) (.string s6) (.string s7) (.slice A8 ags.length c8) v l):=⟨hm.below HXB.out hbz⟩
  have HAN : Aside0 (∀ W,Below w.drew.heap.size w.drew W → Calls Try.prog 91 #[.pointer (some ⟨g,0,none⟩)] W fun e w' => e = .returned (.agg (List.toArray (qL pa []))) ∧ Below W.heap.size W w'):=⟨fun W hW => by
    have h:=mk_answer g (.slice A0 l0.length c0) (.slice A1 l1.length c1) (.string a2) (.string a3) (.string a4) m pc (.int .i64 21) ia (.int .i64 ib) (.int .i64 ic) (.int .i64 id) (.string s5) (.string s6) s7 (.slice A8 ags.length c8) v W (blk_below HM0.out.b hW) (max_below hM (HXB.out.trans (hW.mono HXB.out.size))) hs7
    rw [hpa] at h
    exact h⟩
  have HCN : Aside0 (∀ W,Below w.drew.heap.size w.drew W → Calls Try.prog 92 #[.slice A8 ags.length c8] W fun e w' => ∃ v0_ : Value,e = .returned v0_ ∧ Kd.R (Kd.int .i64) 3 w' W.heap.size (fun _ => True) v0_ ags ∧ Below W.heap.size W w'):=⟨fun W hW => slices_Clone_int_int.calls A8 c8 ags ags W (Kd.C_below hC8 (HXB.out.trans (hW.mono HXB.out.size))) hc8 (if_pos hag)⟩
  have HBc : Aside0 (Below w.drew.heap.size w.drew w.drew):=⟨Below.refl _ _⟩
  have HBz:=aq hbz
  have HL:=aq hl
  have HAG:=aq hag
  clear hm hl hbz hr0 hr1 hM hs7 hC8 hag hpa
  have z0 : w.drew.cell? ⟨g,14,none⟩ = some (.string s5):=blk_cell HM0.out.b 14
  have z1 : w.drew.cell? ⟨g,15,none⟩ = some (.string s6):=blk_cell HM0.out.b 15
  have z2 : w.drew.cell? ⟨g,16,none⟩ = some (.string s7):=blk_cell HM0.out.b 16
  have z3 : w.drew.cell? ⟨g,17,none⟩ = some (.slice A8 ags.length c8):=blk_cell HM0.out.b 17
  go_enter Try.func73,Try.ntmps73
  go_wp2_with fail
  refine start_ (n:=27) (S:=fun w' => w'.cell? ⟨g,14,none⟩ = some (.string s5) ∧ w'.cell? ⟨g,15,none⟩ = some (.string s6) ∧ w'.cell? ⟨g,16,none⟩ = some (.string s7) ∧ w'.cell? ⟨g,17,none⟩ = some (.slice A8 ags.length c8)) (ds:=[26]) (Array.replicate 27 false) (by kernel_rfl) rfl rfl ⟨z0,z1,z2,z3⟩ (fun hHeld => ?_)
  generalize w.drew = X at HM0 HAN HCN HBc HXB z0 z1 z2 z3 hHeld ⊢
  refine sP (i:=0) (N:=some 5) ?_
  refine sP (i:=2) (N:=some 7) ?_
  refine sP (i:=3) (N:=some 8) ?_
  refine sP (i:=4) (N:=some 9) ?_
  refine sP (i:=5) (N:=some 10) ?_
  refine sP (i:=7) (N:=some 12) ?_
  refine sP (i:=8) (N:=some 13) ?_
  refine sP (i:=9) (N:=some 14) ?_
  refine sP (i:=10) (N:=some 15) ?_
  refine sP (i:=12) (N:=some 17) ?_
  refine sP (i:=13) (N:=some 18) ?_
  refine sP (i:=14) (N:=some 19) ?_
  refine sP (i:=15) (N:=some 20) ?_
  refine sP (i:=18) (N:=some 23) ?_
  refine sP (i:=19) (N:=some 24) ?_
  refine sP (i:=20) (N:=some 25) ?_
  refine sP (i:=21) (N:=some 26) ?_
  refine sT (i:=6) (N:=some 11) hHeld ?_
  refine sT (i:=11) (N:=some 16) hHeld ?_
  refine sT (i:=16) (N:=some 21) hHeld ?_
  refine sP (i:=17) (N:=some 22) ?_
  refine sT (i:=22) (N:=some 27) hHeld ?_
  refine join_ (σ:=Nat × Option Addr × Nat) 1 #[true,true,true,true,true,true,true,true,true,true,true,true,true,true,true,true,true,true,true,true,true,true,true,true,true,true,false] (fun s => [(6,.agg (List.toArray (qL pa []))),(28,.slice s.2.1 ags.length s.2.2),(29,.agg (List.toArray ((kK 10 0 (qL pa (qZ (sZ (fZ (kS ⟨#[]⟩ (mS s5 s6 s7 [.slice s.2.1 ags.length s.2.2])))))))))),(2,.pointer (some ⟨s.1,0,none⟩))]) (fun s w' => w'.heap[s.1]? = some (Obj.cells (List.toArray ((kK 0 0 (qZ (qZ (sZ (fZ (kS ⟨#[]⟩ (mZ [.slice none 0 0]))))))))) 60 (0,0)) ∧ Below X.heap.size X w' ∧ X.heap.size ≤ s.1 ∧ Kd.R (Kd.int .i64) 3 w' 0 (fun _ => True) (.slice s.2.1 ags.length s.2.2) ags) ?_ ?_
  rotate_left
  · intro hCont
    refine sW (i:=1) (j:=25) (Ni:=some 6) (Nj:=some 2) (fun K hK => ?_) fun K hK => ?_
    · skip
      refine sG Try.func91 #[.pointer (some ⟨g,0,none⟩)] ?_
      refine (HAN.out X HBc.out).mono ?_
      rintro e w1 ⟨rfl,hb⟩
      refine ⟨_,rfl,?_⟩
      replace HBc:=aq (HBc.out.trans (hb.mono HBc.out.size))
      clear hb
      refine hK.out _ _ ⟨(sC HBc.out z0),(sC HBc.out z1),(sC HBc.out z2),(sC HBc.out z3)⟩ (fun hHeld => ?_)
      clear hK K
      refine sN ?_
      refine sW (i:=23) (j:=25) (Ni:=some 28) (Nj:=some 2) (fun K hK => ?_) fun K hK => ?_
      · skip
        refine sG Try.func92 #[.slice A8 ags.length c8] ?_
        refine (HCN.out w1 HBc.out).mono ?_
        rintro e w23 ⟨vC,rfl,hR,hb⟩
        obtain ⟨AC,cC,hvC⟩:=Kd.R_slice hR
        subst hvC
        refine ⟨_,rfl,?_⟩
        replace HBc:=aq (HBc.out.trans (hb.mono HBc.out.size))
        have HCL:=aq (Kd.R_lower hR (Nat.zero_le _))
        clear hb hR
        refine hK.out _ _ ⟨(sC HBc.out z0),(sC HBc.out z1),(sC HBc.out z2),(sC HBc.out z3)⟩ (fun hHeld => ?_)
        clear hK K
        refine sN ?_
        refine sP (i:=24) (N:=some 29) ?_
        refine sO (i:=25) (N:=some 2) fun K hK => ?_
        refine value_ (w1:=?_) (v:=?_) (by rfl) rfl ?_ ?_
        rotate_left 2
        · go_simp
          constructor
          · rfl
          · rfl
        have HG : Aside0 (X.heap.size ≤ w23.heap.size):=⟨HBc.out.size⟩
        have hb : Below w23.heap.size w23 (w23.alloc (Obj.cells (List.toArray ((kK 0 0 (qZ (qZ (sZ (fZ (kS ⟨#[]⟩ (mZ [.slice none 0 0]))))))))) 60)):=below_alloc (Below.refl _ _) _
        replace HCL:=aq (Kd.R_below HCL.out hb)
        replace HBc:=aq (HBc.out.trans (hb.mono HBc.out.size))
        have HF:=aq (World.alloc_heap_new w23 (Obj.cells (List.toArray ((kK 0 0 (qZ (qZ (sZ (fZ (kS ⟨#[]⟩ (mZ [.slice none 0 0]))))))))) 60))
        clear hb
        refine hK.out _ _ ⟨(sC HBc.out z0),(sC HBc.out z1),(sC HBc.out z2),(sC HBc.out z3)⟩ (fun hHeld => ?_)
        clear hK K
        refine sN ?_
        exact norm_ (by simp only [putAll,Act.put,List.setIfInBounds_toArray,List.set_cons_zero,List.set_cons_succ]) (hCont (w23.heap.size,AC,cC) _ ⟨HF.out,HBc.out,HG.out,HCL.out⟩)
      · skip
        refine value_ (w1:=?_) (v:=?_) (by rfl) rfl ?_ ?_
        rotate_left 2
        · go_simp
          constructor
          · rfl
          · rfl
        have HG : Aside0 (X.heap.size ≤ w1.heap.size):=⟨HBc.out.size⟩
        have hb : Below w1.heap.size w1 (w1.alloc (Obj.cells (List.toArray ((kK 0 0 (qZ (qZ (sZ (fZ (kS ⟨#[]⟩ (mZ [.slice none 0 0]))))))))) 60)):=below_alloc (Below.refl _ _) _
        replace HBc:=aq (HBc.out.trans (hb.mono HBc.out.size))
        have HF:=aq (World.alloc_heap_new w1 (Obj.cells (List.toArray ((kK 0 0 (qZ (qZ (sZ (fZ (kS ⟨#[]⟩ (mZ [.slice none 0 0]))))))))) 60))
        clear hb
        refine hK.out _ _ ⟨(sC HBc.out z0),(sC HBc.out z1),(sC HBc.out z2),(sC HBc.out z3)⟩ (fun hHeld => ?_)
        clear hK K
        refine sN ?_
        refine sO (i:=23) (N:=some 28) fun K hK => ?_
        refine sG Try.func92 #[.slice A8 ags.length c8] ?_
        refine (HCN.out (w1.alloc (Obj.cells (List.toArray ((kK 0 0 (qZ (qZ (sZ (fZ (kS ⟨#[]⟩ (mZ [.slice none 0 0]))))))))) 60)) HBc.out).mono ?_
        rintro e w23 ⟨vC,rfl,hR,hb⟩
        obtain ⟨AC,cC,hvC⟩:=Kd.R_slice hR
        subst hvC
        refine ⟨_,rfl,?_⟩
        replace HF:=aq (blk_below HF.out hb)
        replace HBc:=aq (HBc.out.trans (hb.mono HBc.out.size))
        have HCL:=aq (Kd.R_lower hR (Nat.zero_le _))
        clear hb hR
        refine hK.out _ _ ⟨(sC HBc.out z0),(sC HBc.out z1),(sC HBc.out z2),(sC HBc.out z3)⟩ (fun hHeld => ?_)
        clear hK K
        refine sN ?_
        refine sP (i:=24) (N:=some 29) ?_
        exact norm_ (by simp only [putAll,Act.put,List.setIfInBounds_toArray,List.set_cons_zero,List.set_cons_succ]) (hCont (w1.heap.size,AC,cC) _ ⟨HF.out,HBc.out,HG.out,HCL.out⟩)
    · skip
      refine value_ (w1:=?_) (v:=?_) (by rfl) rfl ?_ ?_
      rotate_left 2
      · go_simp
        constructor
        · rfl
        · rfl
      have HG : Aside0 (X.heap.size ≤ X.heap.size):=⟨HBc.out.size⟩
      have hb : Below X.heap.size X (X.alloc (Obj.cells (List.toArray ((kK 0 0 (qZ (qZ (sZ (fZ (kS ⟨#[]⟩ (mZ [.slice none 0 0]))))))))) 60)):=below_alloc (Below.refl _ _) _
      replace HBc:=aq (HBc.out.trans (hb.mono HBc.out.size))
      have HF:=aq (World.alloc_heap_new X (Obj.cells (List.toArray ((kK 0 0 (qZ (qZ (sZ (fZ (kS ⟨#[]⟩ (mZ [.slice none 0 0]))))))))) 60))
      clear hb
      refine hK.out _ _ ⟨(sC HBc.out z0),(sC HBc.out z1),(sC HBc.out z2),(sC HBc.out z3)⟩ (fun hHeld => ?_)
      clear hK K
      refine sN ?_
      refine sO (i:=1) (N:=some 6) fun K hK => ?_
      refine sG Try.func91 #[.pointer (some ⟨g,0,none⟩)] ?_
      refine (HAN.out (X.alloc (Obj.cells (List.toArray ((kK 0 0 (qZ (qZ (sZ (fZ (kS ⟨#[]⟩ (mZ [.slice none 0 0]))))))))) 60)) HBc.out).mono ?_
      rintro e w1 ⟨rfl,hb⟩
      refine ⟨_,rfl,?_⟩
      replace HF:=aq (blk_below HF.out hb)
      replace HBc:=aq (HBc.out.trans (hb.mono HBc.out.size))
      clear hb
      refine hK.out _ _ ⟨(sC HBc.out z0),(sC HBc.out z1),(sC HBc.out z2),(sC HBc.out z3)⟩ (fun hHeld => ?_)
      clear hK K
      refine sN ?_
      refine sO (i:=23) (N:=some 28) fun K hK => ?_
      refine sG Try.func92 #[.slice A8 ags.length c8] ?_
      refine (HCN.out w1 HBc.out).mono ?_
      rintro e w23 ⟨vC,rfl,hR,hb⟩
      obtain ⟨AC,cC,hvC⟩:=Kd.R_slice hR
      subst hvC
      refine ⟨_,rfl,?_⟩
      replace HF:=aq (blk_below HF.out hb)
      replace HBc:=aq (HBc.out.trans (hb.mono HBc.out.size))
      have HCL:=aq (Kd.R_lower hR (Nat.zero_le _))
      clear hb hR
      refine hK.out _ _ ⟨(sC HBc.out z0),(sC HBc.out z1),(sC HBc.out z2),(sC HBc.out z3)⟩ (fun hHeld => ?_)
      clear hK K
      refine sN ?_
      refine sP (i:=24) (N:=some 29) ?_
      exact norm_ (by simp only [putAll,Act.put,List.setIfInBounds_toArray,List.set_cons_zero,List.set_cons_succ]) (hCont (X.heap.size,AC,cC) _ ⟨HF.out,HBc.out,HG.out,HCL.out⟩)
  rintro ⟨n,AC,cC⟩ w7 ⟨hf,hb,hg,hcl⟩
  replace HBc:=aq hb
  have hHeld : w7.cell? ⟨g,14,none⟩ = some (.string s5) ∧ w7.cell? ⟨g,15,none⟩ = some (.string s6) ∧ w7.cell? ⟨g,16,none⟩ = some (.string s7) ∧ w7.cell? ⟨g,17,none⟩ = some (.slice A8 ags.length c8):=⟨(sC HBc.out z0),(sC HBc.out z1),(sC HBc.out z2),(sC HBc.out z3)⟩
  have HF:=aq hf
  have HG:=aq hg
  have HCL:=aq hcl
  clear hf hb hg hcl
  refine norm_ (a':=?_) ?_ ?_
  rotate_left
  · simp only [putAll,Act.put,List.setIfInBounds_toArray,List.set_cons_zero,List.set_cons_succ]
    rfl
  refine sX (i:=26) (N:=none) fun K hK => ?_
  refine step_store_blk HF.out 60 _ _ 0 38 ((kK 10 0 (qL pa (qZ (sZ (fZ (kS ⟨#[]⟩ (mS s5 s6 s7 [.slice AC ags.length cC])))))))) (by rfl) rfl rfl rfl rfl rfl (show 38 ≤ 38 from Nat.le_refl 38) (by kernel_rfl) rfl (cs':=(List.toArray ((kK 10 0 (qL pa (qZ (sZ (fZ (kS ⟨#[]⟩ (mS s5 s6 s7 [.slice AC ags.length cC])))))))))) (by kernel_rfl) ?_
  intro w8 hq hB hF hsz
  have HZ8:=aq hq
  have HB8:=aq (hB _ _ HG.out HBc.out)
  have HC8:=aq (R_storefar HCL.out HF.out hF)
  clear hq hB hF hsz
  refine hK.out _ _ ?_
  clear hK K
  refine done_ (by kernel_rfl) ?_
  have HS8 : Aside0 (IvS w w8 base g (.slice A0 l0.length c0) (.slice A1 l1.length c1) (.string a2) (.string a3) (.string a4) m pc (.int .i64 21) (.int .i64 ia) (.int .i64 ib) (.int .i64 ic) (.int .i64 id) (.string s5) (.string s6) (.string s7) (.slice A8 ags.length c8) v v l n (List.toArray ((kK 10 0 (qL pa (qZ (sZ (fZ (kS ⟨#[]⟩ (mS s5 s6 s7 [.slice AC ags.length cC]))))))))) 60):=⟨IvS.inner HM0.out HXB.out HBz.out HB8.out HZ8.out HG.out⟩
  have HN0 : Aside0 (w.heap.size ≤ n):=⟨Nat.le_trans HXB.out.size HG.out⟩
  have HBW8 : Aside0 (Below w.heap.size w w8):=⟨HXB.out.trans (HB8.out.mono HXB.out.size)⟩
  clear hHeld z0 z1 z2 z3 HM0 HBc HXB HF HCL HB8 HZ8 HG HAN HCN
  have k9 : w8.cell? ⟨g,9,none⟩ = some (.int .i64 21):=blk_cell HS8.out.hm.b 9
  have HS9:=aq (HS8.out.set1 HN0.out HBz.out 33 (.string s5) (cs':=(List.toArray ((kK 10 0 (qL pa (qZ (sZ (fZ (kS s5 (mS s5 s6 s7 [.slice AC ags.length cC])))))))))) (by kernel_rfl))
  have k14 : w8.cell? ⟨g,14,none⟩ = some (.string s5):=blk_cell HS8.out.hm.b 14
  have k33 : w8.cell? ⟨n,33,none⟩ = some (.string ⟨#[]⟩):=blk_cell HS8.out.hz 33
  have nf:=blk_frozen HS8.out.hz 33
  have HC9:=aq (R_storefar HC8.out HS8.out.hz (fun k ob hk hb => (Below.heap_setCell _ _ _ _ (show k ≠ (⟨n,33,none⟩ : Addr).block from hk)).trans hb) (W':=w8.setCell ⟨n,33,none⟩ (.string s5)))
  clear k9
  have k9 : w8.cell? ⟨g,9,none⟩ = some (.int .i64 21):=blk_cell HS8.out.hm.b 9
  have k37 : w8.cell? ⟨n,37,none⟩ = some (.slice AC ags.length cC):=blk_cell HS8.out.hz 37
  by_cases hag0 : ags = []
  · subst hag0
    go_wp2_with fail
    exact bodyPost_ret (v:=.tuple #[]) (by simp [results,Try.results73,go_sem]) rfl (by first|exact ⟨_,[],rfl,(by rw [List.append_nil];exact HS9.out.hm),Nat.le_of_ble_eq_true rfl,asked_nil,HS9.out.hB,HS9.out.hK⟩|exact ⟨rfl,_,[],(by rw [List.append_nil];exact HS9.out.hm),Nat.le_of_ble_eq_true rfl,asked_nil,HS9.out.hB,HS9.out.hK⟩)
  have hpn : 0 < ags.length:=List.length_pos_iff.2 hag0
  have HE : Aside0 (ags.isEmpty = false):=⟨by cases ags with|nil => exact absurd rfl hag0|cons a b => rfl⟩
  have hne : ((ags.length : Int) == 0) = false:=beq_eq_false_iff_ne.2 (by omega)
  have hpos : (0 : Int) < (ags.length : Int):=by omega
  clear hag0
  obtain ⟨_,hcC,hCC⟩:=Kd.R_reads' HC8.out
  obtain ⟨ad,hA,hx0⟩:=int_at hCC 0 hpn
  subst hA
  rw [show ad.add 0 = ad from by unfold Addr.add;simp] at hx0
  obtain ⟨x0,hxe⟩ : ∃ x0,ags.getD 0 0 = x0:=⟨_,rfl⟩
  have HX0 : Aside0 (x0 ∈ ags):=⟨by
    rw [← hxe,List.getD_eq_getElem?_getD,List.getElem?_eq_getElem hpn]
    exact List.getElem_mem hpn⟩
  rw [hxe] at hx0
  have hadn : ad.block ≠ n:=R_not HC8.out HS8.out.hz
  clear hcC hCC hxe
  have hx1 : (w8.setCell ⟨n,33,none⟩ (.string s5)).cell? ad = some (.int .i64 x0):=(cell_far (p:=⟨n,33,none⟩) (a:=ad) hadn _).trans hx0
  go_wp2_with fail
  refine (maker_reg g (.slice A0 l0.length c0) (.slice A1 l1.length c1) (.string a2) (.string a3) (.string a4) m pc (.int .i64 21) (.int .i64 ia) (.int .i64 ib) (.int .i64 ic) (.int .i64 id) (.string s5) (.string s6) (.string s7) (.slice A8 ags.length c8) v x0 (w8.setCell ⟨n,33,none⟩ (.string s5)) HS9.out.hm.b).mono ?_
  rintro e w10 ⟨rfl,hb⟩
  have HS10:=aq (HS9.out.below hb)
  clear hb k9 k37 hx0 hx1
  go_wp2_with (first
    | (refine wpList_store_blk HS10.out.hz 50 _ _ 14 12 [.int .i64 1,.string m.f0,.string m.f1,.string m.f2,.int .i64 x0,.string ⟨#[]⟩,.string ⟨#[]⟩,.string ⟨#[]⟩,.string ⟨#[]⟩,.string ⟨#[]⟩,.int .i64 0,.string ⟨#[]⟩] rfl rfl rfl rfl rfl (show 26 ≤ 38 from Nat.le_add_right 26 12) (by kernel_rfl) rfl (cs':=(List.toArray ((kK 10 0 (qL pa (qR 1 m x0 (sZ (fZ (kS s5 (mS s5 s6 s7 [.slice (some ad) ags.length cC])))))))))) (by kernel_rfl) ?_;intro w11 hq hB hF hsz;have HS11:=aq (HS10.out.store HN0.out HBz.out hq hB hF hsz);clear hq hB hF hsz)
    | (refine wpList_load_blk HS11.out.hz 60 _ 0 38 ((kK 10 0 (qL pa (qR 1 m x0 (sZ (fZ (kS s5 (mS s5 s6 s7 [.slice (some ad) ags.length cC])))))))) _ rfl rfl rfl rfl (by kernel_rfl) Try.underlying60 rfl (by kernel_rfl) ?_)
    | fail)
  refine (put_plain base g (.slice A0 l0.length c0) (.slice A1 l1.length c1) (.string a2) (.string a3) (.string a4) m pc (.int .i64 21) (.int .i64 ia) (.int .i64 ib) (.int .i64 ic) (.int .i64 id) (.string s5) (.string s6) (.string s7) (.slice A8 ags.length c8) v l (⟨10,0,pa,(⟨1,m,x0,z44,z46⟩ : S50),⟨z25,0,⟨#[]⟩⟩,z44,s5,⟨s5,s6,s7⟩,(some ad,ags.length,cC)⟩ : CV) w11 HS11.out.hm (show (10 : Int) ≠ 1 by decide) (by have:=HL.out;(try simp only [List.length_append,List.length_cons,List.length_nil]);omega) HS11.out.hs).mono ?_
  rintro e w12 ⟨v12,rfl,hm,hb,hk⟩
  have HS12:=aq (HS11.out.put hm hb hk)
  clear hm hb hk
  go_wp2_with fail
  exact bodyPost_end (v:=.tuple #[]) (by simp [results,Try.results73,go_sem]) rfl (by first|exact ⟨_,[(⟨10,pc,pa,(⟨1,m,x0,z44,z46⟩ : S50),⟨m,0,⟨#[]⟩⟩,z44,s5,⟨s5,s6,s7⟩,(some ad,ags.length,cC)⟩ : CV)],rfl,HS12.out.hm,Nat.le_of_ble_eq_true rfl,(by rw [HE.out];exact (asked_ans (s:=s7) rfl rfl HPA.out.symm (by simp [usesR]) (fun _ => ⟨rfl,by rw [show usesR (⟨21,ia,ib,ic,id,s5,s6,s7,ags⟩ : S74) = ia :: ags from by simp [usesR]];exact List.mem_cons_of_mem _ HX0.out⟩) asked_nil)),HS12.out.hB,HS12.out.hK⟩|exact ⟨rfl,_,[(⟨10,pc,pa,(⟨1,m,x0,z44,z46⟩ : S50),⟨m,0,⟨#[]⟩⟩,z44,s5,⟨s5,s6,s7⟩,(some ad,ags.length,cC)⟩ : CV)],HS12.out.hm,Nat.le_of_ble_eq_true rfl,(by rw [HE.out];exact (asked_ans (s:=s7) rfl rfl HPA.out.symm (by simp [usesR]) (fun _ => ⟨rfl,by rw [show usesR (⟨21,ia,ib,ic,id,s5,s6,s7,ags⟩ : S74) = ia :: ags from by simp [usesR]];exact List.mem_cons_of_mem _ HX0.out⟩) asked_nil)),HS12.out.hB,HS12.out.hK⟩)
theorem iv_call19 (base g : Nat) (A0 : Option Addr) (c0 : Nat) (l0 : List S33) (A1 : Option Addr) (c1 : Nat) (l1 : List ByteArray) (a2 a3 a4 : ByteArray) (m : S25) (pc : Int) (ia ib ic id : Int) (s5 s6 s7 : ByteArray) (A8 : Option Addr) (c8 : Nat) (ags : List Int) (v : Value) (l : List CV) (w : World) (hm : MkOwn w base g (.slice A0 l0.length c0) (.slice A1 l1.length c1) (.string a2) (.string a3) (.string a4) m pc (.int .i64 19) (.int .i64 ia) (.int .i64 ib) (.int .i64 ic) (.int .i64 id) (.string s5) (.string s6) (.string s7) (.slice A8 ags.length c8) v l) (hl : l.length + 2 ≤ 1048576) (hbz : base ≤ w.heap.size) (hr0 : Kd.C k33 w A0 l0.length l0) (hc0 : l0.length ≤ c0) (hr1 : Kd.C Kd.string w A1 l1.length l1) (hc1 : l1.length ≤ c1) (hM : MaxL w) (hs7 : s7.size ≤ 1048576) (hC8 : Kd.C (Kd.int .i64) w A8 ags.length ags) (hc8 : ags.length ≤ c8) (hag : ags.length ≤ 1048576) (t0 t1 t2 : ByteArray) (ok : Bool) (hst : find_Static.f l0 l1 a2 a3 a4 s5 s6 s7 = some (t0, t1, t2, ok)) :
    Calls Try.prog 46 #[.pointer (some ⟨g,0,none⟩)] w fun e w' => ∃ v' ins,e = .returned (.tuple #[]) ∧ MkOwn w' base g (.slice A0 l0.length c0) (.slice A1 l1.length c1) (.string a2) (.string a3) (.string a4) m pc (.int .i64 19) (.int .i64 ia) (.int .i64 ib) (.int .i64 ic) (.int .i64 id) (.string s5) (.string s6) (.string s7) (.slice A8 ags.length c8) v' (l ++ ins) ∧ ins.length ≤ 3 ∧ Asked m pc (⟨19,ia,ib,ic,id,s5,s6,s7,ags⟩ : S74) ins (ok && ansB s7) ∧ Below base w w' ∧ Kp w w' g v v':=by
  have hab:=below_alloc (Below.refl w.heap.size w) (Obj.cells #[.int .i64 19,.int .i64 ia,.int .i64 ib,.int .i64 ic,.int .i64 id,.string s5,.string s6,.string s7,.slice A8 ags.length c8] 74)
  have HC:=aq (fun (h : IvS w (w.alloc (Obj.cells #[.int .i64 19,.int .i64 ia,.int .i64 ib,.int .i64 ic,.int .i64 id,.string s5,.string s6,.string s7,.slice A8 ags.length c8] 74)) base g (.slice A0 l0.length c0) (.slice A1 l1.length c1) (.string a2) (.string a3) (.string a4) m pc (.int .i64 19) (.int .i64 ia) (.int .i64 ib) (.int .i64 ic) (.int .i64 id) (.string s5) (.string s6) (.string s7) (.slice A8 ags.length c8) v v l w.heap.size #[.int .i64 19,.int .i64 ia,.int .i64 ib,.int .i64 ic,.int .i64 id,.string s5,.string s6,.string s7,.slice A8 ags.length c8] 74) => mk_call19 base g A0 c0 l0 A1 c1 l1 a2 a3 a4 m pc ia ib ic id s5 s6 s7 A8 c8 ags v l (w.alloc (Obj.cells #[.int .i64 19,.int .i64 ia,.int .i64 ib,.int .i64 ic,.int .i64 id,.string s5,.string s6,.string s7,.slice A8 ags.length c8] 74)) h.hm hl h.hs (Kd.C_below hr0 hab) hc0 (Kd.C_below hr1 hab) hc1 (max_below hM hab) hs7 (Kd.C_below hC8 hab) hc8 hag t0 t1 t2 ok hst)
  clear hab
  have HS0:=aq (IvS.start hm hbz #[.int .i64 19,.int .i64 ia,.int .i64 ib,.int .i64 ic,.int .i64 id,.string s5,.string s6,.string s7,.slice A8 ags.length c8] 74)
  have HL:=aq hl
  obtain ⟨e9,e10,e11,e12,e13,e14,e15,e16,e17⟩ : w.cell? ⟨g,9,none⟩ = some (.int .i64 19) ∧ w.cell? ⟨g,10,none⟩ = some (.int .i64 ia) ∧ w.cell? ⟨g,11,none⟩ = some (.int .i64 ib) ∧ w.cell? ⟨g,12,none⟩ = some (.int .i64 ic) ∧ w.cell? ⟨g,13,none⟩ = some (.int .i64 id) ∧ w.cell? ⟨g,14,none⟩ = some (.string s5) ∧ w.cell? ⟨g,15,none⟩ = some (.string s6) ∧ w.cell? ⟨g,16,none⟩ = some (.string s7) ∧ w.cell? ⟨g,17,none⟩ = some (.slice A8 ags.length c8):=⟨blk_cell hm.b 9,blk_cell hm.b 10,blk_cell hm.b 11,blk_cell hm.b 12,blk_cell hm.b 13,blk_cell hm.b 14,blk_cell hm.b 15,blk_cell hm.b 16,blk_cell hm.b 17⟩
  clear hm hbz hl
  go_enter Try.func46,Try.ntmps46
  go_wp2_with fail
  clear e9 e10 e11 e12 e13 e14 e15 e16 e17
  refine (HC.out HS0.out).mono ?_
  rintro e w1 ⟨v1,ins,rfl,hm1,hln,hask,hb1,hk1⟩
  have HS1:=aq (HS0.out.put hm1 hb1 hk1)
  have HN:=aq hln
  have HK:=aq hask
  clear hm1 hln hask hb1 hk1
  go_wp2_with fail
  exact bodyPost_end (v:=.tuple #[]) (by simp [results,Try.results46,go_sem]) rfl (by first|exact ⟨_,ins,rfl,HS1.out.hm,HN.out,HK.out,HS1.out.hB,HS1.out.hK⟩|exact ⟨rfl,_,ins,HS1.out.hm,HN.out,HK.out,HS1.out.hB,HS1.out.hK⟩)
theorem iv_call20 (base g : Nat) (A0 : Option Addr) (c0 : Nat) (l0 : List S33) (A1 : Option Addr) (c1 : Nat) (l1 : List ByteArray) (a2 a3 a4 : ByteArray) (m : S25) (pc : Int) (ia ib ic id : Int) (s5 s6 s7 : ByteArray) (A8 : Option Addr) (c8 : Nat) (ags : List Int) (v : Value) (l : List CV) (w : World) (hm : MkOwn w base g (.slice A0 l0.length c0) (.slice A1 l1.length c1) (.string a2) (.string a3) (.string a4) m pc (.int .i64 20) (.int .i64 ia) (.int .i64 ib) (.int .i64 ic) (.int .i64 id) (.string s5) (.string s6) (.string s7) (.slice A8 ags.length c8) v l) (hl : l.length + 2 ≤ 1048576) (hbz : base ≤ w.heap.size) (hr0 : Kd.C k33 w A0 l0.length l0) (hc0 : l0.length ≤ c0) (hr1 : Kd.C Kd.string w A1 l1.length l1) (hc1 : l1.length ≤ c1) (hM : MaxL w) (hs7 : s7.size ≤ 1048576) (hC8 : Kd.C (Kd.int .i64) w A8 ags.length ags) (hc8 : ags.length ≤ c8) (hag : ags.length ≤ 1048576) :
    Calls Try.prog 46 #[.pointer (some ⟨g,0,none⟩)] w fun e w' => ∃ v' ins,e = .returned (.tuple #[]) ∧ MkOwn w' base g (.slice A0 l0.length c0) (.slice A1 l1.length c1) (.string a2) (.string a3) (.string a4) m pc (.int .i64 20) (.int .i64 ia) (.int .i64 ib) (.int .i64 ic) (.int .i64 id) (.string s5) (.string s6) (.string s7) (.slice A8 ags.length c8) v' (l ++ ins) ∧ ins.length ≤ 3 ∧ Asked m pc (⟨20,ia,ib,ic,id,s5,s6,s7,ags⟩ : S74) ins ((!ags.isEmpty) && ansB s7) ∧ Below base w w' ∧ Kp w w' g v v':=by
  have hab:=below_alloc (Below.refl w.heap.size w) (Obj.cells #[.int .i64 20,.int .i64 ia,.int .i64 ib,.int .i64 ic,.int .i64 id,.string s5,.string s6,.string s7,.slice A8 ags.length c8] 74)
  have HC:=aq (fun (h : IvS w (w.alloc (Obj.cells #[.int .i64 20,.int .i64 ia,.int .i64 ib,.int .i64 ic,.int .i64 id,.string s5,.string s6,.string s7,.slice A8 ags.length c8] 74)) base g (.slice A0 l0.length c0) (.slice A1 l1.length c1) (.string a2) (.string a3) (.string a4) m pc (.int .i64 20) (.int .i64 ia) (.int .i64 ib) (.int .i64 ic) (.int .i64 id) (.string s5) (.string s6) (.string s7) (.slice A8 ags.length c8) v v l w.heap.size #[.int .i64 20,.int .i64 ia,.int .i64 ib,.int .i64 ic,.int .i64 id,.string s5,.string s6,.string s7,.slice A8 ags.length c8] 74) => mk_call20 base g A0 c0 l0 A1 c1 l1 a2 a3 a4 m pc ia ib ic id s5 s6 s7 A8 c8 ags v l (w.alloc (Obj.cells #[.int .i64 20,.int .i64 ia,.int .i64 ib,.int .i64 ic,.int .i64 id,.string s5,.string s6,.string s7,.slice A8 ags.length c8] 74)) h.hm hl h.hs (Kd.C_below hr0 hab) hc0 (Kd.C_below hr1 hab) hc1 (max_below hM hab) hs7 (Kd.C_below hC8 hab) hc8 hag)
  clear hab
  have HS0:=aq (IvS.start hm hbz #[.int .i64 20,.int .i64 ia,.int .i64 ib,.int .i64 ic,.int .i64 id,.string s5,.string s6,.string s7,.slice A8 ags.length c8] 74)
  have HL:=aq hl
  obtain ⟨e9,e10,e11,e12,e13,e14,e15,e16,e17⟩ : w.cell? ⟨g,9,none⟩ = some (.int .i64 20) ∧ w.cell? ⟨g,10,none⟩ = some (.int .i64 ia) ∧ w.cell? ⟨g,11,none⟩ = some (.int .i64 ib) ∧ w.cell? ⟨g,12,none⟩ = some (.int .i64 ic) ∧ w.cell? ⟨g,13,none⟩ = some (.int .i64 id) ∧ w.cell? ⟨g,14,none⟩ = some (.string s5) ∧ w.cell? ⟨g,15,none⟩ = some (.string s6) ∧ w.cell? ⟨g,16,none⟩ = some (.string s7) ∧ w.cell? ⟨g,17,none⟩ = some (.slice A8 ags.length c8):=⟨blk_cell hm.b 9,blk_cell hm.b 10,blk_cell hm.b 11,blk_cell hm.b 12,blk_cell hm.b 13,blk_cell hm.b 14,blk_cell hm.b 15,blk_cell hm.b 16,blk_cell hm.b 17⟩
  clear hm hbz hl
  go_enter Try.func46,Try.ntmps46
  go_wp2_with fail
  clear e9 e10 e11 e12 e13 e14 e15 e16 e17
  refine (HC.out HS0.out).mono ?_
  rintro e w1 ⟨v1,ins,rfl,hm1,hln,hask,hb1,hk1⟩
  have HS1:=aq (HS0.out.put hm1 hb1 hk1)
  have HN:=aq hln
  have HK:=aq hask
  clear hm1 hln hask hb1 hk1
  go_wp2_with fail
  exact bodyPost_end (v:=.tuple #[]) (by simp [results,Try.results46,go_sem]) rfl (by first|exact ⟨_,ins,rfl,HS1.out.hm,HN.out,HK.out,HS1.out.hB,HS1.out.hK⟩|exact ⟨rfl,_,ins,HS1.out.hm,HN.out,HK.out,HS1.out.hB,HS1.out.hK⟩)
theorem iv_call21 (base g : Nat) (A0 : Option Addr) (c0 : Nat) (l0 : List S33) (A1 : Option Addr) (c1 : Nat) (l1 : List ByteArray) (a2 a3 a4 : ByteArray) (m : S25) (pc : Int) (ia ib ic id : Int) (s5 s6 s7 : ByteArray) (A8 : Option Addr) (c8 : Nat) (ags : List Int) (v : Value) (l : List CV) (w : World) (hm : MkOwn w base g (.slice A0 l0.length c0) (.slice A1 l1.length c1) (.string a2) (.string a3) (.string a4) m pc (.int .i64 21) (.int .i64 ia) (.int .i64 ib) (.int .i64 ic) (.int .i64 id) (.string s5) (.string s6) (.string s7) (.slice A8 ags.length c8) v l) (hl : l.length + 2 ≤ 1048576) (hbz : base ≤ w.heap.size) (hr0 : Kd.C k33 w A0 l0.length l0) (hc0 : l0.length ≤ c0) (hr1 : Kd.C Kd.string w A1 l1.length l1) (hc1 : l1.length ≤ c1) (hM : MaxL w) (hs7 : s7.size ≤ 1048576) (hC8 : Kd.C (Kd.int .i64) w A8 ags.length ags) (hc8 : ags.length ≤ c8) (hag : ags.length ≤ 1048576) :
    Calls Try.prog 46 #[.pointer (some ⟨g,0,none⟩)] w fun e w' => ∃ v' ins,e = .returned (.tuple #[]) ∧ MkOwn w' base g (.slice A0 l0.length c0) (.slice A1 l1.length c1) (.string a2) (.string a3) (.string a4) m pc (.int .i64 21) (.int .i64 ia) (.int .i64 ib) (.int .i64 ic) (.int .i64 id) (.string s5) (.string s6) (.string s7) (.slice A8 ags.length c8) v' (l ++ ins) ∧ ins.length ≤ 3 ∧ Asked m pc (⟨21,ia,ib,ic,id,s5,s6,s7,ags⟩ : S74) ins ((!ags.isEmpty) && ansB s7) ∧ Below base w w' ∧ Kp w w' g v v':=by
  have hab:=below_alloc (Below.refl w.heap.size w) (Obj.cells #[.int .i64 21,.int .i64 ia,.int .i64 ib,.int .i64 ic,.int .i64 id,.string s5,.string s6,.string s7,.slice A8 ags.length c8] 74)
  have HC:=aq (fun (h : IvS w (w.alloc (Obj.cells #[.int .i64 21,.int .i64 ia,.int .i64 ib,.int .i64 ic,.int .i64 id,.string s5,.string s6,.string s7,.slice A8 ags.length c8] 74)) base g (.slice A0 l0.length c0) (.slice A1 l1.length c1) (.string a2) (.string a3) (.string a4) m pc (.int .i64 21) (.int .i64 ia) (.int .i64 ib) (.int .i64 ic) (.int .i64 id) (.string s5) (.string s6) (.string s7) (.slice A8 ags.length c8) v v l w.heap.size #[.int .i64 21,.int .i64 ia,.int .i64 ib,.int .i64 ic,.int .i64 id,.string s5,.string s6,.string s7,.slice A8 ags.length c8] 74) => mk_call21 base g A0 c0 l0 A1 c1 l1 a2 a3 a4 m pc ia ib ic id s5 s6 s7 A8 c8 ags v l (w.alloc (Obj.cells #[.int .i64 21,.int .i64 ia,.int .i64 ib,.int .i64 ic,.int .i64 id,.string s5,.string s6,.string s7,.slice A8 ags.length c8] 74)) h.hm hl h.hs (Kd.C_below hr0 hab) hc0 (Kd.C_below hr1 hab) hc1 (max_below hM hab) hs7 (Kd.C_below hC8 hab) hc8 hag)
  clear hab
  have HS0:=aq (IvS.start hm hbz #[.int .i64 21,.int .i64 ia,.int .i64 ib,.int .i64 ic,.int .i64 id,.string s5,.string s6,.string s7,.slice A8 ags.length c8] 74)
  have HL:=aq hl
  obtain ⟨e9,e10,e11,e12,e13,e14,e15,e16,e17⟩ : w.cell? ⟨g,9,none⟩ = some (.int .i64 21) ∧ w.cell? ⟨g,10,none⟩ = some (.int .i64 ia) ∧ w.cell? ⟨g,11,none⟩ = some (.int .i64 ib) ∧ w.cell? ⟨g,12,none⟩ = some (.int .i64 ic) ∧ w.cell? ⟨g,13,none⟩ = some (.int .i64 id) ∧ w.cell? ⟨g,14,none⟩ = some (.string s5) ∧ w.cell? ⟨g,15,none⟩ = some (.string s6) ∧ w.cell? ⟨g,16,none⟩ = some (.string s7) ∧ w.cell? ⟨g,17,none⟩ = some (.slice A8 ags.length c8):=⟨blk_cell hm.b 9,blk_cell hm.b 10,blk_cell hm.b 11,blk_cell hm.b 12,blk_cell hm.b 13,blk_cell hm.b 14,blk_cell hm.b 15,blk_cell hm.b 16,blk_cell hm.b 17⟩
  clear hm hbz hl
  go_enter Try.func46,Try.ntmps46
  go_wp2_with fail
  clear e9 e10 e11 e12 e13 e14 e15 e16 e17
  refine (HC.out HS0.out).mono ?_
  rintro e w1 ⟨v1,ins,rfl,hm1,hln,hask,hb1,hk1⟩
  have HS1:=aq (HS0.out.put hm1 hb1 hk1)
  have HN:=aq hln
  have HK:=aq hask
  clear hm1 hln hask hb1 hk1
  go_wp2_with fail
  exact bodyPost_end (v:=.tuple #[]) (by simp [results,Try.results46,go_sem]) rfl (by first|exact ⟨_,ins,rfl,HS1.out.hm,HN.out,HK.out,HS1.out.hB,HS1.out.hK⟩|exact ⟨rfl,_,ins,HS1.out.hm,HN.out,HK.out,HS1.out.hB,HS1.out.hK⟩)
def supS (l0 : List S33) (cl : ByteArray) : List ByteArray := upF (l0.length + 1) l0 [] cl
def setsV (l0 : List S33) (x : S74) : Bool :=
 if x.f0 = 15 ∨ x.f0 = 17 then (fldF l0 (supS l0 x.f5) x.f6).2.2 else if x.f0 = 19 then (decS l0 (supS l0 x.f5) x.f6 x.f7).2.2.2 && ansB x.f7 else if x.f0 = 20 ∨ x.f0 = 21 then (!x.f8.isEmpty) && ansB x.f7
 else if x.f0 = 4 ∨ x.f0 = 25 ∨ x.f0 = 9 ∨ x.f0 = 10 ∨ x.f0 = 11 ∨ x.f0 = 13 ∨ x.f0 = 14 ∨ x.f0 = 28 then true else false
def PutsV (A0 : Option Addr) (c0 : Nat) (l0 : List S33) (A1 : Option Addr) (c1 : Nat) (l1 : List ByteArray) (a2 a3 a4 : ByteArray) (m : S25) (pc : Int) (x : S74) : Prop :=
 ∀ (g : Nat) (A8 : Option Addr) (c8 : Nat) (v : Value) (l : List CV) (W : World),MkOwn W g g (.slice A0 l0.length c0) (.slice A1 l1.length c1) (.string a2) (.string a3) (.string a4) m pc (.int .i64 x.f0) (.int .i64 x.f1) (.int .i64 x.f2) (.int .i64 x.f3) (.int .i64 x.f4) (.string x.f5) (.string x.f6) (.string x.f7) (.slice A8 x.f8.length c8) v l → Kd.C (Kd.int .i64) W A8 x.f8.length x.f8 → x.f8.length ≤ c8 → l.length + 2 ≤ 1048576 → g ≤ W.heap.size →
  Kd.C k33 W A0 l0.length l0 → Kd.C Kd.string W A1 l1.length l1 → MaxL W →
  Calls Try.prog 46 #[.pointer (some ⟨g,0,none⟩)] W fun e w' => ∃ v' ins,e = .returned (.tuple #[]) ∧ MkOwn w' g g (.slice A0 l0.length c0) (.slice A1 l1.length c1) (.string a2) (.string a3) (.string a4) m pc (.int .i64 x.f0) (.int .i64 x.f1) (.int .i64 x.f2) (.int .i64 x.f3) (.int .i64 x.f4) (.string x.f5) (.string x.f6) (.string x.f7) (.slice A8 x.f8.length c8) v' (l ++ ins) ∧ ins.length ≤ 3 ∧ Asked m pc x ins (setsV l0 x) ∧ Below g W w'
def Sized (l0 : List S33) (x : S74) : Prop := l0.length ≤ 8796093022208 ∧ (∀ c ∈ l0, c.f0.size ≤ 9223372036854775807) ∧ x.f5.size ≤ 4611686018427387903 ∧ x.f7.size ≤ 1048576 ∧ x.f8.length ≤ 1048576
theorem sup_eq {l0 : List S33} {l1 : List ByteArray} {a2 a3 a4 : ByteArray} (h1 : l0.length ≤ 8796093022208) (h2 : ∀ c ∈ l0, c.f0.size ≤ 9223372036854775807) (cl : ByteArray) : hier_Supers.f l0 l1 a2 a3 a4 cl = some (supS l0 cl) := if_pos ⟨h2, h1⟩
theorem puts_all (A0 : Option Addr) (c0 : Nat) (l0 : List S33) (A1 : Option Addr) (c1 : Nat) (l1 : List ByteArray) (a2 a3 a4 : ByteArray) (hc0 : l0.length ≤ c0) (hc1 : l1.length ≤ c1) (m : S25) (pc : Int) (x : S74) (hz : Sized l0 x) : PutsV A0 c0 l0 A1 c1 l1 a2 a3 a4 m pc x := by
 obtain ⟨z1,z2,z3,z4,z5⟩:=hz
 intro g A8 c8 v l W hm hC8 hc8 hl hg hr0 hr1 hM
 have hsup:=fun cl => sup_eq (l1:=l1) (a2:=a2) (a3:=a3) (a4:=a4) z1 z2 cl
 obtain ⟨op,ia,ib,ic,id,s5,s6,s7,ags⟩:=x
 have weak : ∀ (s : Bool),s = setsV l0 ⟨op,ia,ib,ic,id,s5,s6,s7,ags⟩ → (Calls Try.prog 46 #[.pointer (some ⟨g,0,none⟩)] W fun e w' => ∃ v' ins,e = .returned (.tuple #[]) ∧ MkOwn w' g g (.slice A0 l0.length c0) (.slice A1 l1.length c1) (.string a2) (.string a3) (.string a4) m pc (.int .i64 op) (.int .i64 ia) (.int .i64 ib) (.int .i64 ic) (.int .i64 id) (.string s5) (.string s6) (.string s7) (.slice A8 ags.length c8) v' (l ++ ins) ∧ ins.length ≤ 3 ∧ Asked m pc ⟨op,ia,ib,ic,id,s5,s6,s7,ags⟩ ins s ∧ Below g W w' ∧ Kp W w' g v v') →
   Calls Try.prog 46 #[.pointer (some ⟨g,0,none⟩)] W fun e w' => ∃ v' ins,e = .returned (.tuple #[]) ∧ MkOwn w' g g (.slice A0 l0.length c0) (.slice A1 l1.length c1) (.string a2) (.string a3) (.string a4) m pc (.int .i64 op) (.int .i64 ia) (.int .i64 ib) (.int .i64 ic) (.int .i64 id) (.string s5) (.string s6) (.string s7) (.slice A8 ags.length c8) v' (l ++ ins) ∧ ins.length ≤ 3 ∧ Asked m pc ⟨op,ia,ib,ic,id,s5,s6,s7,ags⟩ ins (setsV l0 ⟨op,ia,ib,ic,id,s5,s6,s7,ags⟩) ∧ Below g W w':=by
  rintro s rfl h
  refine h.mono ?_
  rintro e w' ⟨v',ins,h1,h2,h3,h4,h5,_⟩
  exact ⟨v',ins,h1,h2,h3,h4,h5⟩
 refine weak _ rfl ?_
 have hfd : find_Field.f l0 l1 a2 a3 a4 s5 s6 = some ((fldF l0 (supS l0 s5) s6).1,(fldF l0 (supS l0 s5) s6).2.1,(fldF l0 (supS l0 s5) s6).2.2):=by unfold find_Field.f;rw [hsup];rfl
 have hst : find_Static.f l0 l1 a2 a3 a4 s5 s6 s7 = some ((decS l0 (supS l0 s5) s6 s7).1,(decS l0 (supS l0 s5) s6 s7).2.1,(decS l0 (supS l0 s5) s6 s7).2.2.1,(decS l0 (supS l0 s5) s6 s7).2.2.2):=by unfold find_Static.f;rw [hsup];rfl
 by_cases h4 : op = 4
 ·
  subst h4
  rw [show setsV l0 ⟨4,ia,ib,ic,id,s5,s6,s7,ags⟩ = (true) from by simp [setsV]]
  exact iv_move g g (.slice A0 l0.length c0) (.slice A1 l1.length c1) (.string a2) (.string a3) (.string a4) m pc ia ib ic id s5 s6 s7 A8 ags.length c8 ags v l W hm hl hg
 by_cases h25 : op = 25
 ·
  subst h25
  rw [show setsV l0 ⟨25,ia,ib,ic,id,s5,s6,s7,ags⟩ = (true) from by simp [setsV]]
  exact iv_cast g g (.slice A0 l0.length c0) (.slice A1 l1.length c1) (.string a2) (.string a3) (.string a4) m pc ia ib ic id s5 s6 s7 A8 ags.length c8 ags v l W hm hl hg
 by_cases h9 : op = 9
 ·
  subst h9
  rw [show setsV l0 ⟨9,ia,ib,ic,id,s5,s6,s7,ags⟩ = (true) from by simp [setsV]]
  exact iv_new g g (.slice A0 l0.length c0) (.slice A1 l1.length c1) (.string a2) (.string a3) (.string a4) m pc ia ib ic id s5 s6 s7 A8 ags.length c8 ags v l W hm hl hg
 by_cases h10 : op = 10
 ·
  subst h10
  rw [show setsV l0 ⟨10,ia,ib,ic,id,s5,s6,s7,ags⟩ = (true) from by simp [setsV]]
  exact iv_newints g g (.slice A0 l0.length c0) (.slice A1 l1.length c1) (.string a2) (.string a3) (.string a4) m pc ia ib ic id s5 s6 s7 A8 ags.length c8 ags v l W hm hl hg
 by_cases h13 : op = 13
 ·
  subst h13
  rw [show setsV l0 ⟨13,ia,ib,ic,id,s5,s6,s7,ags⟩ = (true) from by simp [setsV]]
  exact iv_load g g (.slice A0 l0.length c0) (.slice A1 l1.length c1) (.string a2) (.string a3) (.string a4) m pc ia ib ic id s5 s6 s7 A8 ags.length c8 ags v l W hm hl hg
 by_cases h14 : op = 14
 ·
  subst h14
  rw [show setsV l0 ⟨14,ia,ib,ic,id,s5,s6,s7,ags⟩ = (true) from by simp [setsV]]
  exact iv_store g g (.slice A0 l0.length c0) (.slice A1 l1.length c1) (.string a2) (.string a3) (.string a4) m pc ia ib ic id s5 s6 s7 A8 ags.length c8 ags v l W hm hl hg
 by_cases h22 : op = 22
 ·
  subst h22
  rw [show setsV l0 ⟨22,ia,ib,ic,id,s5,s6,s7,ags⟩ = (false) from by simp [setsV]]
  exact iv_return g g (.slice A0 l0.length c0) (.slice A1 l1.length c1) (.string a2) (.string a3) (.string a4) m pc ia ib ic id s5 s6 s7 A8 ags.length c8 ags v l W hm hl hg
 by_cases h28 : op = 28
 ·
  subst h28
  rw [show setsV l0 ⟨28,ia,ib,ic,id,s5,s6,s7,ags⟩ = (true) from by simp [setsV]]
  exact iv_make g g (.slice A0 l0.length c0) (.slice A1 l1.length c1) (.string a2) (.string a3) (.string a4) m pc ia ib ic id s5 s6 s7 A8 ags.length c8 ags v l W hm hl hg
 by_cases h29 : op = 29
 ·
  subst h29
  rw [show setsV l0 ⟨29,ia,ib,ic,id,s5,s6,s7,ags⟩ = (false) from by simp [setsV]]
  exact iv_ask g g (.slice A0 l0.length c0) (.slice A1 l1.length c1) (.string a2) (.string a3) (.string a4) m pc ia ib ic id s5 s6 s7 A8 ags.length c8 ags v l W hm hl hg
 by_cases h32 : op = 32
 ·
  subst h32
  rw [show setsV l0 ⟨32,ia,ib,ic,id,s5,s6,s7,ags⟩ = (false) from by simp [setsV]]
  exact iv_init g g (.slice A0 l0.length c0) (.slice A1 l1.length c1) (.string a2) (.string a3) (.string a4) m pc ia ib ic id s5 s6 s7 A8 ags.length c8 ags v l W hm hl hg
 by_cases h11 : op = 11
 ·
  subst h11
  rw [show setsV l0 ⟨11,ia,ib,ic,id,s5,s6,s7,ags⟩ = (true) from by simp [setsV]]
  exact iv_newrefs g g (.slice A0 l0.length c0) (.slice A1 l1.length c1) (.string a2) (.string a3) (.string a4) m pc ia ib ic id s5 s6 s7 A8 ags.length c8 ags v l W z3 hm hl hg
 by_cases h15 : op = 15
 ·
  subst h15
  rw [show setsV l0 ⟨15,ia,ib,ic,id,s5,s6,s7,ags⟩ = ((fldF l0 (supS l0 s5) s6).2.2) from by simp [setsV]]
  exact iv_field15 g g A0 c0 l0 A1 c1 l1 a2 a3 a4 m pc ia ib ic id s5 s6 s7 A8 ags.length c8 ags v l W hm hl hg hr0 hc0 hr1 hc1 _ _ _ hfd
 by_cases h16 : op = 16
 ·
  subst h16
  rw [show setsV l0 ⟨16,ia,ib,ic,id,s5,s6,s7,ags⟩ = (false) from by simp [setsV]]
  exact iv_field16 g g A0 c0 l0 A1 c1 l1 a2 a3 a4 m pc ia ib ic id s5 s6 s7 A8 ags.length c8 ags v l W hm hl hg hr0 hc0 hr1 hc1 _ _ _ hfd
 by_cases h17 : op = 17
 ·
  subst h17
  rw [show setsV l0 ⟨17,ia,ib,ic,id,s5,s6,s7,ags⟩ = ((fldF l0 (supS l0 s5) s6).2.2) from by simp [setsV]]
  exact iv_field17 g g A0 c0 l0 A1 c1 l1 a2 a3 a4 m pc ia ib ic id s5 s6 s7 A8 ags.length c8 ags v l W hm hl hg hr0 hc0 hr1 hc1 _ _ _ hfd
 by_cases h18 : op = 18
 ·
  subst h18
  rw [show setsV l0 ⟨18,ia,ib,ic,id,s5,s6,s7,ags⟩ = (false) from by simp [setsV]]
  exact iv_field18 g g A0 c0 l0 A1 c1 l1 a2 a3 a4 m pc ia ib ic id s5 s6 s7 A8 ags.length c8 ags v l W hm hl hg hr0 hc0 hr1 hc1 _ _ _ hfd
 by_cases h19 : op = 19
 ·
  subst h19
  rw [show setsV l0 ⟨19,ia,ib,ic,id,s5,s6,s7,ags⟩ = ((decS l0 (supS l0 s5) s6 s7).2.2.2 && ansB s7) from by simp [setsV]]
  exact iv_call19 g g A0 c0 l0 A1 c1 l1 a2 a3 a4 m pc ia ib ic id s5 s6 s7 A8 c8 ags v l W hm hl hg hr0 hc0 hr1 hc1 hM z4 hC8 hc8 z5 _ _ _ _ hst
 by_cases h20 : op = 20
 ·
  subst h20
  rw [show setsV l0 ⟨20,ia,ib,ic,id,s5,s6,s7,ags⟩ = ((!ags.isEmpty) && ansB s7) from by simp [setsV]]
  exact iv_call20 g g A0 c0 l0 A1 c1 l1 a2 a3 a4 m pc ia ib ic id s5 s6 s7 A8 c8 ags v l W hm hl hg hr0 hc0 hr1 hc1 hM z4 hC8 hc8 z5
 by_cases h21 : op = 21
 ·
  subst h21
  rw [show setsV l0 ⟨21,ia,ib,ic,id,s5,s6,s7,ags⟩ = ((!ags.isEmpty) && ansB s7) from by simp [setsV]]
  exact iv_call21 g g A0 c0 l0 A1 c1 l1 a2 a3 a4 m pc ia ib ic id s5 s6 s7 A8 c8 ags v l W hm hl hg hr0 hc0 hr1 hc1 hM z4 hC8 hc8 z5
 rw [show setsV l0 ⟨op,ia,ib,ic,id,s5,s6,s7,ags⟩ = false from by simp only [setsV];rw [if_neg (by omega),if_neg (by omega),if_neg (by omega),if_neg (by omega)]]
 exact iv_none g g (.slice A0 l0.length c0) (.slice A1 l1.length c1) (.string a2) (.string a3) (.string a4) m pc op ia ib ic id s5 s6 s7 A8 ags.length c8 ags v l W (fun n hn => by simp only [List.mem_cons,List.not_mem_nil,or_false] at hn;omega) hm hl hg
structure Made (m : S25) (code : List S74) (l0 : List S33) (i : Nat) (L : List CV) : Prop where
 ex : ∃ ins : Nat → List CV,L = (List.range i).flatMap ins ∧ ∀ j (h : j < code.length),j < i → (ins j).length ≤ 3 ∧ Asked m (j : Int) code[j] (ins j) (setsV l0 code[j])
theorem Made.zero (m : S25) (code : List S74) (l0 : List S33) : Made m code l0 0 [] := ⟨⟨fun _ => [], rfl, fun j _ h => absurd h (Nat.not_lt_zero j)⟩⟩
theorem Made.next {m : S25} {code : List S74} {l0 : List S33} {i : Nat} {L ins : List CV} (h : Made m code l0 i L) (hi : i < code.length) (hl : ins.length ≤ 3) (ha : Asked m (i : Int) code[i] ins (setsV l0 code[i])) : Made m code l0 (i + 1) (L ++ ins) := by
 obtain ⟨f,rfl,hf⟩:=h.ex
 refine ⟨⟨fun j => if j = i then ins else f j,?_,fun j hj hji => ?_⟩⟩
 ·
  rw [List.range_succ,List.flatMap_append]
  congr 1
  ·
   rw [List.flatMap_def,List.flatMap_def]
   congr 1
   refine List.map_congr_left fun j hj => ?_
   rw [if_neg (by have:=List.mem_range.1 hj;omega)]
  ·
   simp
 ·
  by_cases e : j = i
  ·
   subst e
   dsimp only
   rw [if_pos rfl]
   exact ⟨hl,ha⟩
  ·
   dsimp only
   rw [if_neg e]
   exact hf j hj (by omega)
theorem flat_len (f : Nat → List CV) : ∀ i, (∀ j, j < i → (f j).length ≤ 3) → ((List.range i).flatMap f).length ≤ 3 * i
 | 0,_ => Nat.le_refl 0
 | i + 1,h => by
  have h1:=flat_len f i (fun j hj => h j (by omega))
  have h2:=h i (by omega)
  rw [List.range_succ,List.flatMap_append,List.length_append]
  simp only [List.flatMap_cons,List.flatMap_nil,List.append_nil]
  omega
theorem Made.len {m : S25} {code : List S74} {l0 : List S33} {i : Nat} {L : List CV} (h : Made m code l0 i L) (hi : i ≤ code.length) : L.length ≤ 3 * i := by
 obtain ⟨f,rfl,hf⟩:=h.ex
 exact flat_len f i (fun j hj => (hf j (by omega) hj).1)
theorem MkOwn.next {w : World} {base g : Nat} {a0 a1 a2 a3 a4 : Value} {m : S25} {pc : Int} {b0 b1 b2 b3 b4 b5 b6 b7 b8 : Value} {v : Value} {l : List CV} (h : MkOwn w base g a0 a1 a2 a3 a4 m pc b0 b1 b2 b3 b4 b5 b6 b7 b8 v l) (pc' : Int) (u0 u1 u2 u3 u4 u5 u6 u7 u8 : Value) : MkOwn ((((((((((w.setCell ⟨g, 8, none⟩ (.int .i64 pc')).setCell ⟨g, 9, none⟩ (u0)).setCell ⟨g, 10, none⟩ (u1)).setCell ⟨g, 11, none⟩ (u2)).setCell ⟨g, 12, none⟩ (u3)).setCell ⟨g, 13, none⟩ (u4)).setCell ⟨g, 14, none⟩ (u5)).setCell ⟨g, 15, none⟩ (u6)).setCell ⟨g, 16, none⟩ (u7)).setCell ⟨g, 17, none⟩ (u8)) base g a0 a1 a2 a3 a4 m pc' u0 u1 u2 u3 u4 u5 u6 u7 u8 v l := ⟨(blk_put (cs := #[a0, a1, a2, a3, a4, .string m.f0, .string m.f1, .string m.f2, .int .i64 pc', u0, u1, u2, u3, u4, u5, u6, u7, b8, v]) (blk_put (cs := #[a0, a1, a2, a3, a4, .string m.f0, .string m.f1, .string m.f2, .int .i64 pc', u0, u1, u2, u3, u4, u5, u6, b7, b8, v]) (blk_put (cs := #[a0, a1, a2, a3, a4, .string m.f0, .string m.f1, .string m.f2, .int .i64 pc', u0, u1, u2, u3, u4, u5, b6, b7, b8, v]) (blk_put (cs := #[a0, a1, a2, a3, a4, .string m.f0, .string m.f1, .string m.f2, .int .i64 pc', u0, u1, u2, u3, u4, b5, b6, b7, b8, v]) (blk_put (cs := #[a0, a1, a2, a3, a4, .string m.f0, .string m.f1, .string m.f2, .int .i64 pc', u0, u1, u2, u3, b4, b5, b6, b7, b8, v]) (blk_put (cs := #[a0, a1, a2, a3, a4, .string m.f0, .string m.f1, .string m.f2, .int .i64 pc', u0, u1, u2, b3, b4, b5, b6, b7, b8, v]) (blk_put (cs := #[a0, a1, a2, a3, a4, .string m.f0, .string m.f1, .string m.f2, .int .i64 pc', u0, u1, b2, b3, b4, b5, b6, b7, b8, v]) (blk_put (cs := #[a0, a1, a2, a3, a4, .string m.f0, .string m.f1, .string m.f2, .int .i64 pc', u0, b1, b2, b3, b4, b5, b6, b7, b8, v]) (blk_put (cs := #[a0, a1, a2, a3, a4, .string m.f0, .string m.f1, .string m.f2, .int .i64 pc', b0, b1, b2, b3, b4, b5, b6, b7, b8, v]) (blk_put (cs := #[a0, a1, a2, a3, a4, .string m.f0, .string m.f1, .string m.f2, .int .i64 pc, b0, b1, b2, b3, b4, b5, b6, b7, b8, v]) h.b 8 (.int .i64 pc') rfl) 9 (u0) rfl) 10 (u1) rfl) 11 (u2) rfl) 12 (u3) rfl) 13 (u4) rfl) 14 (u5) rfl) 15 (u6) rfl) 16 (u7) rfl) 17 (u8) rfl), h.hb, (Kd.R_set (Kd.R_set (Kd.R_set (Kd.R_set (Kd.R_set (Kd.R_set (Kd.R_set (Kd.R_set (Kd.R_set (Kd.R_set h.r h.b (by decide) 8 (.int .i64 pc')) (blk_put (cs := #[a0, a1, a2, a3, a4, .string m.f0, .string m.f1, .string m.f2, .int .i64 pc, b0, b1, b2, b3, b4, b5, b6, b7, b8, v]) h.b 8 (.int .i64 pc') rfl) (by decide) 9 (u0)) (blk_put (cs := #[a0, a1, a2, a3, a4, .string m.f0, .string m.f1, .string m.f2, .int .i64 pc', b0, b1, b2, b3, b4, b5, b6, b7, b8, v]) (blk_put (cs := #[a0, a1, a2, a3, a4, .string m.f0, .string m.f1, .string m.f2, .int .i64 pc, b0, b1, b2, b3, b4, b5, b6, b7, b8, v]) h.b 8 (.int .i64 pc') rfl) 9 (u0) rfl) (by decide) 10 (u1)) (blk_put (cs := #[a0, a1, a2, a3, a4, .string m.f0, .string m.f1, .string m.f2, .int .i64 pc', u0, b1, b2, b3, b4, b5, b6, b7, b8, v]) (blk_put (cs := #[a0, a1, a2, a3, a4, .string m.f0, .string m.f1, .string m.f2, .int .i64 pc', b0, b1, b2, b3, b4, b5, b6, b7, b8, v]) (blk_put (cs := #[a0, a1, a2, a3, a4, .string m.f0, .string m.f1, .string m.f2, .int .i64 pc, b0, b1, b2, b3, b4, b5, b6, b7, b8, v]) h.b 8 (.int .i64 pc') rfl) 9 (u0) rfl) 10 (u1) rfl) (by decide) 11 (u2)) (blk_put (cs := #[a0, a1, a2, a3, a4, .string m.f0, .string m.f1, .string m.f2, .int .i64 pc', u0, u1, b2, b3, b4, b5, b6, b7, b8, v]) (blk_put (cs := #[a0, a1, a2, a3, a4, .string m.f0, .string m.f1, .string m.f2, .int .i64 pc', u0, b1, b2, b3, b4, b5, b6, b7, b8, v]) (blk_put (cs := #[a0, a1, a2, a3, a4, .string m.f0, .string m.f1, .string m.f2, .int .i64 pc', b0, b1, b2, b3, b4, b5, b6, b7, b8, v]) (blk_put (cs := #[a0, a1, a2, a3, a4, .string m.f0, .string m.f1, .string m.f2, .int .i64 pc, b0, b1, b2, b3, b4, b5, b6, b7, b8, v]) h.b 8 (.int .i64 pc') rfl) 9 (u0) rfl) 10 (u1) rfl) 11 (u2) rfl) (by decide) 12 (u3)) (blk_put (cs := #[a0, a1, a2, a3, a4, .string m.f0, .string m.f1, .string m.f2, .int .i64 pc', u0, u1, u2, b3, b4, b5, b6, b7, b8, v]) (blk_put (cs := #[a0, a1, a2, a3, a4, .string m.f0, .string m.f1, .string m.f2, .int .i64 pc', u0, u1, b2, b3, b4, b5, b6, b7, b8, v]) (blk_put (cs := #[a0, a1, a2, a3, a4, .string m.f0, .string m.f1, .string m.f2, .int .i64 pc', u0, b1, b2, b3, b4, b5, b6, b7, b8, v]) (blk_put (cs := #[a0, a1, a2, a3, a4, .string m.f0, .string m.f1, .string m.f2, .int .i64 pc', b0, b1, b2, b3, b4, b5, b6, b7, b8, v]) (blk_put (cs := #[a0, a1, a2, a3, a4, .string m.f0, .string m.f1, .string m.f2, .int .i64 pc, b0, b1, b2, b3, b4, b5, b6, b7, b8, v]) h.b 8 (.int .i64 pc') rfl) 9 (u0) rfl) 10 (u1) rfl) 11 (u2) rfl) 12 (u3) rfl) (by decide) 13 (u4)) (blk_put (cs := #[a0, a1, a2, a3, a4, .string m.f0, .string m.f1, .string m.f2, .int .i64 pc', u0, u1, u2, u3, b4, b5, b6, b7, b8, v]) (blk_put (cs := #[a0, a1, a2, a3, a4, .string m.f0, .string m.f1, .string m.f2, .int .i64 pc', u0, u1, u2, b3, b4, b5, b6, b7, b8, v]) (blk_put (cs := #[a0, a1, a2, a3, a4, .string m.f0, .string m.f1, .string m.f2, .int .i64 pc', u0, u1, b2, b3, b4, b5, b6, b7, b8, v]) (blk_put (cs := #[a0, a1, a2, a3, a4, .string m.f0, .string m.f1, .string m.f2, .int .i64 pc', u0, b1, b2, b3, b4, b5, b6, b7, b8, v]) (blk_put (cs := #[a0, a1, a2, a3, a4, .string m.f0, .string m.f1, .string m.f2, .int .i64 pc', b0, b1, b2, b3, b4, b5, b6, b7, b8, v]) (blk_put (cs := #[a0, a1, a2, a3, a4, .string m.f0, .string m.f1, .string m.f2, .int .i64 pc, b0, b1, b2, b3, b4, b5, b6, b7, b8, v]) h.b 8 (.int .i64 pc') rfl) 9 (u0) rfl) 10 (u1) rfl) 11 (u2) rfl) 12 (u3) rfl) 13 (u4) rfl) (by decide) 14 (u5)) (blk_put (cs := #[a0, a1, a2, a3, a4, .string m.f0, .string m.f1, .string m.f2, .int .i64 pc', u0, u1, u2, u3, u4, b5, b6, b7, b8, v]) (blk_put (cs := #[a0, a1, a2, a3, a4, .string m.f0, .string m.f1, .string m.f2, .int .i64 pc', u0, u1, u2, u3, b4, b5, b6, b7, b8, v]) (blk_put (cs := #[a0, a1, a2, a3, a4, .string m.f0, .string m.f1, .string m.f2, .int .i64 pc', u0, u1, u2, b3, b4, b5, b6, b7, b8, v]) (blk_put (cs := #[a0, a1, a2, a3, a4, .string m.f0, .string m.f1, .string m.f2, .int .i64 pc', u0, u1, b2, b3, b4, b5, b6, b7, b8, v]) (blk_put (cs := #[a0, a1, a2, a3, a4, .string m.f0, .string m.f1, .string m.f2, .int .i64 pc', u0, b1, b2, b3, b4, b5, b6, b7, b8, v]) (blk_put (cs := #[a0, a1, a2, a3, a4, .string m.f0, .string m.f1, .string m.f2, .int .i64 pc', b0, b1, b2, b3, b4, b5, b6, b7, b8, v]) (blk_put (cs := #[a0, a1, a2, a3, a4, .string m.f0, .string m.f1, .string m.f2, .int .i64 pc, b0, b1, b2, b3, b4, b5, b6, b7, b8, v]) h.b 8 (.int .i64 pc') rfl) 9 (u0) rfl) 10 (u1) rfl) 11 (u2) rfl) 12 (u3) rfl) 13 (u4) rfl) 14 (u5) rfl) (by decide) 15 (u6)) (blk_put (cs := #[a0, a1, a2, a3, a4, .string m.f0, .string m.f1, .string m.f2, .int .i64 pc', u0, u1, u2, u3, u4, u5, b6, b7, b8, v]) (blk_put (cs := #[a0, a1, a2, a3, a4, .string m.f0, .string m.f1, .string m.f2, .int .i64 pc', u0, u1, u2, u3, u4, b5, b6, b7, b8, v]) (blk_put (cs := #[a0, a1, a2, a3, a4, .string m.f0, .string m.f1, .string m.f2, .int .i64 pc', u0, u1, u2, u3, b4, b5, b6, b7, b8, v]) (blk_put (cs := #[a0, a1, a2, a3, a4, .string m.f0, .string m.f1, .string m.f2, .int .i64 pc', u0, u1, u2, b3, b4, b5, b6, b7, b8, v]) (blk_put (cs := #[a0, a1, a2, a3, a4, .string m.f0, .string m.f1, .string m.f2, .int .i64 pc', u0, u1, b2, b3, b4, b5, b6, b7, b8, v]) (blk_put (cs := #[a0, a1, a2, a3, a4, .string m.f0, .string m.f1, .string m.f2, .int .i64 pc', u0, b1, b2, b3, b4, b5, b6, b7, b8, v]) (blk_put (cs := #[a0, a1, a2, a3, a4, .string m.f0, .string m.f1, .string m.f2, .int .i64 pc', b0, b1, b2, b3, b4, b5, b6, b7, b8, v]) (blk_put (cs := #[a0, a1, a2, a3, a4, .string m.f0, .string m.f1, .string m.f2, .int .i64 pc, b0, b1, b2, b3, b4, b5, b6, b7, b8, v]) h.b 8 (.int .i64 pc') rfl) 9 (u0) rfl) 10 (u1) rfl) 11 (u2) rfl) 12 (u3) rfl) 13 (u4) rfl) 14 (u5) rfl) 15 (u6) rfl) (by decide) 16 (u7)) (blk_put (cs := #[a0, a1, a2, a3, a4, .string m.f0, .string m.f1, .string m.f2, .int .i64 pc', u0, u1, u2, u3, u4, u5, u6, b7, b8, v]) (blk_put (cs := #[a0, a1, a2, a3, a4, .string m.f0, .string m.f1, .string m.f2, .int .i64 pc', u0, u1, u2, u3, u4, u5, b6, b7, b8, v]) (blk_put (cs := #[a0, a1, a2, a3, a4, .string m.f0, .string m.f1, .string m.f2, .int .i64 pc', u0, u1, u2, u3, u4, b5, b6, b7, b8, v]) (blk_put (cs := #[a0, a1, a2, a3, a4, .string m.f0, .string m.f1, .string m.f2, .int .i64 pc', u0, u1, u2, u3, b4, b5, b6, b7, b8, v]) (blk_put (cs := #[a0, a1, a2, a3, a4, .string m.f0, .string m.f1, .string m.f2, .int .i64 pc', u0, u1, u2, b3, b4, b5, b6, b7, b8, v]) (blk_put (cs := #[a0, a1, a2, a3, a4, .string m.f0, .string m.f1, .string m.f2, .int .i64 pc', u0, u1, b2, b3, b4, b5, b6, b7, b8, v]) (blk_put (cs := #[a0, a1, a2, a3, a4, .string m.f0, .string m.f1, .string m.f2, .int .i64 pc', u0, b1, b2, b3, b4, b5, b6, b7, b8, v]) (blk_put (cs := #[a0, a1, a2, a3, a4, .string m.f0, .string m.f1, .string m.f2, .int .i64 pc', b0, b1, b2, b3, b4, b5, b6, b7, b8, v]) (blk_put (cs := #[a0, a1, a2, a3, a4, .string m.f0, .string m.f1, .string m.f2, .int .i64 pc, b0, b1, b2, b3, b4, b5, b6, b7, b8, v]) h.b 8 (.int .i64 pc') rfl) 9 (u0) rfl) 10 (u1) rfl) 11 (u2) rfl) 12 (u3) rfl) 13 (u4) rfl) 14 (u5) rfl) 15 (u6) rfl) 16 (u7) rfl) (by decide) 17 (u8))⟩
theorem gen_ofV (P : Nat → Prop) (A0 : Option Addr) (c0 : Nat) (l0 : List S33) (A1 : Option Addr) (c1 : Nat) (l1 : List ByteArray) (a2 a3 a4 b0 b1 b2 : ByteArray) (w : World) (hs : Kd.F k33 w P A0 l0.length l0) (hc : l0.length ≤ c0) (hr1 : Kd.C Kd.string w A1 l1.length l1) (hc1 : l1.length ≤ c1)
  (hM : MaxL w) (hput : ∀ i (h : i < (getM l0 b0 b1 b2).f5.length),PutsV A0 c0 l0 A1 c1 l1 a2 a3 a4 ⟨b0,b1,b2⟩ (i : Int) ((getM l0 b0 b1 b2).f5[i])) (hlen : (getM l0 b0 b1 b2).f5.length ≤ 300) :
  Calls Try.prog 29 #[.agg (pG A0 l0 c0 A1 l1 c1 a2 a3 a4),.agg #[.string b0,.string b1,.string b2]] w fun e w' => ∃ v' L,e = .returned v' ∧ Kd.R kCV 60 w' w.heap.size (fun _ => True) v' L ∧ Made ⟨b0,b1,b2⟩ (getM l0 b0 b1 b2).f5 l0 (getM l0 b0 b1 b2).f5.length L ∧ Below w.heap.size w w':=by
 have hb0:=below_alloc (below_alloc (Below.refl w.heap.size w) (Obj.cells (pG A0 l0 c0 A1 l1 c1 a2 a3 a4) 27)) (Obj.cells #[.string b0,.string b1,.string b2] 25)
 have HG:=aq (find_get P A0 c0 l0 A1 c1 l1 a2 a3 a4 b0 b1 b2 ((w.alloc (Obj.cells (pG A0 l0 c0 A1 l1 c1 a2 a3 a4) 27)).alloc (Obj.cells #[.string b0,.string b1,.string b2] 25)) (Kd.F_below hs hb0) hc (Kd.C_below hr1 hb0) hc1)
 have HB0:=aq hb0
 have hp:=blk_alloc (World.alloc_heap_new w (Obj.cells (pG A0 l0 c0 A1 l1 c1 a2 a3 a4) 27)) (Obj.cells #[.string b0,.string b1,.string b2] 25)
 have hq:=World.alloc_heap_new (w.alloc (Obj.cells (pG A0 l0 c0 A1 l1 c1 a2 a3 a4) 27)) (Obj.cells #[.string b0,.string b1,.string b2] 25)
 rw [World.size_alloc] at hq
 have HP:=aq hp
 have HQ:=aq hq
 have HPT:=aq hput
 have HLE:=aq hlen
 have HRC:=aq (Kd.F_now hs)
 have HRS:=aq hr1
 have HMX:=aq hM
 clear hs hr1 hb0 hp hq hput hlen hM
 go_enter Try.func29,Try.ntmps29
 go_wp2_with fail
 refine HG.out.mono ?_
 rintro e w1 ⟨A5,c5,rfl,hfk,hb⟩
 obtain ⟨hc5,hF⟩:=method_code hfk
 have HCD:=aq (Kd.F_now hF)
 have HC5:=aq hc5
 have HB1:=aq (below_step HB0.out hb)
 have HP1:=aq (blk_below HP.out hb)
 have HQ1:=aq (blk_below HQ.out hb)
 clear hfk hb hF hc5
 have HPm:=aq (blk_alloc HP1.out (Obj.cells (zH (getM l0 b0 b1 b2) A5 c5) 37))
 have HQm:=aq (blk_alloc HQ1.out (Obj.cells (zH (getM l0 b0 b1 b2) A5 c5) 37))
 have hd:=blk_alloc (World.alloc_heap_new w1 (Obj.cells (zH (getM l0 b0 b1 b2) A5 c5) 37)) (Obj.cells #[.slice A0 l0.length c0,.slice A1 l1.length c1,.string a2,.string a3,.string a4,.string b0,.string b1,.string b2,.int .i64 0,.int .i64 0,.int .i64 0,.int .i64 0,.int .i64 0,.int .i64 0,.string ⟨#[]⟩,.string ⟨#[]⟩,.string ⟨#[]⟩,.slice none 0 0,.slice none 0 0] 85)
 have hk:=World.alloc_heap_new (w1.alloc (Obj.cells (zH (getM l0 b0 b1 b2) A5 c5) 37)) (Obj.cells #[.slice A0 l0.length c0,.slice A1 l1.length c1,.string a2,.string a3,.string a4,.string b0,.string b1,.string b2,.int .i64 0,.int .i64 0,.int .i64 0,.int .i64 0,.int .i64 0,.int .i64 0,.string ⟨#[]⟩,.string ⟨#[]⟩,.string ⟨#[]⟩,.slice none 0 0,.slice none 0 0] 85)
 rw [World.size_alloc] at hk
 obtain ⟨n,hn⟩ : ∃ n,n = (getM l0 b0 b1 b2).f5.length:=⟨_,rfl⟩
 have HMK : Aside0 (MkOwn ((w1.alloc (Obj.cells (zH (getM l0 b0 b1 b2) A5 c5) 37)).alloc (Obj.cells #[.slice A0 l0.length c0,.slice A1 l1.length c1,.string a2,.string a3,.string a4,.string b0,.string b1,.string b2,.int .i64 0,.int .i64 0,.int .i64 0,.int .i64 0,.int .i64 0,.int .i64 0,.string ⟨#[]⟩,.string ⟨#[]⟩,.string ⟨#[]⟩,.slice none 0 0,.slice none 0 0] 85)) (w1.heap.size + 1) (w1.heap.size + 1) (.slice A0 l0.length c0) (.slice A1 l1.length c1) (.string a2) (.string a3) (.string a4) ⟨b0,b1,b2⟩ 0 (.int .i64 0) (.int .i64 0) (.int .i64 0) (.int .i64 0) (.int .i64 0) (.string ⟨#[]⟩) (.string ⟨#[]⟩) (.string ⟨#[]⟩) (.slice none 0 0) (.slice none 0 0) []):=⟨⟨hk,Nat.le_refl _,Kd.R_nil _ _ _ _ _⟩⟩
 have HBC:=aq (below_alloc (below_alloc (Below.refl w1.heap.size w1) (Obj.cells (zH (getM l0 b0 b1 b2) A5 c5) 37)) (Obj.cells #[.slice A0 l0.length c0,.slice A1 l1.length c1,.string a2,.string a3,.string a4,.string b0,.string b1,.string b2,.int .i64 0,.int .i64 0,.int .i64 0,.int .i64 0,.int .i64 0,.int .i64 0,.string ⟨#[]⟩,.string ⟨#[]⟩,.string ⟨#[]⟩,.slice none 0 0,.slice none 0 0] 85))
 have d5 : ((w1.alloc (Obj.cells (zH (getM l0 b0 b1 b2) A5 c5) 37)).alloc (Obj.cells #[.slice A0 l0.length c0,.slice A1 l1.length c1,.string a2,.string a3,.string a4,.string b0,.string b1,.string b2,.int .i64 0,.int .i64 0,.int .i64 0,.int .i64 0,.int .i64 0,.int .i64 0,.string ⟨#[]⟩,.string ⟨#[]⟩,.string ⟨#[]⟩,.slice none 0 0,.slice none 0 0] 85)).cell? ⟨w1.heap.size,5,none⟩ = some (.slice A5 (getM l0 b0 b1 b2).f5.length c5):=blk_cell hd 5
 have HSZ : Aside0 (((w1.alloc (Obj.cells (zH (getM l0 b0 b1 b2) A5 c5) 37)).alloc (Obj.cells #[.slice A0 l0.length c0,.slice A1 l1.length c1,.string a2,.string a3,.string a4,.string b0,.string b1,.string b2,.int .i64 0,.int .i64 0,.int .i64 0,.int .i64 0,.int .i64 0,.int .i64 0,.string ⟨#[]⟩,.string ⟨#[]⟩,.string ⟨#[]⟩,.slice none 0 0,.slice none 0 0] 85)).heap.size = w1.heap.size + 2):=⟨by rw [World.size_alloc,World.size_alloc]⟩
 clear hk hd
 obtain ⟨p0,p1,p2,p3,p4⟩:=cells5 HPm.out
 obtain ⟨q0,q1,q2⟩:=cells3 HQm.out
 go_wp2_with fail
 clear p0 p1 p2 p3 p4 q0 q1 q2 d5
 generalize (w1.alloc (Obj.cells (zH (getM l0 b0 b1 b2) A5 c5) 37)).alloc (Obj.cells #[.slice A0 l0.length c0,.slice A1 l1.length c1,.string a2,.string a3,.string a4,.string b0,.string b1,.string b2,.int .i64 0,.int .i64 0,.int .i64 0,.int .i64 0,.int .i64 0,.int .i64 0,.string ⟨#[]⟩,.string ⟨#[]⟩,.string ⟨#[]⟩,.slice none 0 0,.slice none 0 0] 85) = W2 at HMK HBC HSZ ⊢
 obtain ⟨G,hG⟩ : ∃ G,G = w1.heap.size + 1:=⟨_,rfl⟩
 rw [← hG] at HMK ⊢
 have HG1 : Aside0 (w1.heap.size ≤ G ∧ W2.heap.size = G + 1):=⟨by have:=HSZ.out;omega⟩
 rw [← hn]
 have HNN:=aq hn
 clear hG HSZ hn
 go_loopg [21] n (fun kq v21 wr => ∃ (i : Nat) (pcv : Int) (t0 t1 t2 t3 t4 t5 t6 t7 t8 v : Value) (L : List CV),v21 = .int .i64 (i : Int) ∧ i + kq = n ∧ Aside0 (MkOwn wr G G (.slice A0 l0.length c0) (.slice A1 l1.length c1) (.string a2) (.string a3) (.string a4) ⟨b0,b1,b2⟩ pcv t0 t1 t2 t3 t4 t5 t6 t7 t8 v L) ∧ Aside0 (Below G W2 wr) ∧ Aside0 (Made ⟨b0,b1,b2⟩ (getM l0 b0 b1 b2).f5 l0 i L))
 case atStart => exact ⟨0,0,.int .i64 0,.int .i64 0,.int .i64 0,.int .i64 0,.int .i64 0,.string ⟨#[]⟩,.string ⟨#[]⟩,.string ⟨#[]⟩,.slice none 0 0,.slice none 0 0,[],rfl,by omega,HMK,⟨Below.refl _ _⟩,⟨Made.zero _ _ _⟩⟩
 case round =>
  obtain ⟨i,pcv,t0,t1,t2,t3,t4,t5,t6,t7,t8,v,L,rfl,hi,HM,HBL,HMD⟩:=hrel
  have HBR : Aside0 (Below w1.heap.size w1 wr):=⟨HBC.out.trans (HBL.out.mono HG1.out.1)⟩
  by_cases hlt : i < n
  ·
   have hltX : i < (getM l0 b0 b1 b2).f5.length:=by rw [← HNN.out];exact hlt
   obtain ⟨ad,A8,c8,hA,h0,h1,h2,h3,h4,h5,h6,h7,h8,hl8,hC8⟩:=at_T74 HCD.out (i : Int) (by omega) (Int.ofNat_lt.2 hltX)
   have hx : rd_T74 (getM l0 b0 b1 b2).f5 (i : Int) = (getM l0 b0 b1 b2).f5[i]:=by
    unfold rd_T74
    rw [Int.toNat_natCast,List.getD_eq_getElem?_getD,List.getElem?_eq_getElem hltX]
    rfl
   have HPI:=aq (HPT.out i hltX)
   rw [hx,Int.toNat_natCast] at h0 h1 h2 h3 h4 h5 h6 h7 h8
   rw [hx] at hl8 hC8
   obtain ⟨y,hy⟩ : ∃ y,(getM l0 b0 b1 b2).f5[i] = y:=⟨_,rfl⟩
   rw [hy] at HPI h0 h1 h2 h3 h4 h5 h6 h7 h8 hl8 hC8
   subst hA
   replace h0:=sC HBR.out h0
   replace h1:=sC HBR.out h1
   replace h2:=sC HBR.out h2
   replace h3:=sC HBR.out h3
   replace h4:=sC HBR.out h4
   replace h5:=sC HBR.out h5
   replace h6:=sC HBR.out h6
   replace h7:=sC HBR.out h7
   replace h8:=sC HBR.out h8
   obtain ⟨s8,s9,s10,s11,s12,s13,s14,s15,s16,s17⟩ : wr.cell? ⟨G,8,none⟩ = some (.int .i64 pcv) ∧ wr.cell? ⟨G,9,none⟩ = some (t0) ∧ wr.cell? ⟨G,10,none⟩ = some (t1) ∧ wr.cell? ⟨G,11,none⟩ = some (t2) ∧ wr.cell? ⟨G,12,none⟩ = some (t3) ∧ wr.cell? ⟨G,13,none⟩ = some (t4) ∧ wr.cell? ⟨G,14,none⟩ = some (t5) ∧ wr.cell? ⟨G,15,none⟩ = some (t6) ∧ wr.cell? ⟨G,16,none⟩ = some (t7) ∧ wr.cell? ⟨G,17,none⟩ = some (t8):=⟨blk_cell HM.out.b 8,blk_cell HM.out.b 9,blk_cell HM.out.b 10,blk_cell HM.out.b 11,blk_cell HM.out.b 12,blk_cell HM.out.b 13,blk_cell HM.out.b 14,blk_cell HM.out.b 15,blk_cell HM.out.b 16,blk_cell HM.out.b 17⟩
   have hfg:=blk_frozen HM.out.b
   have HN:=aq (HM.out.next (i : Int) (.int .i64 y.f0) (.int .i64 y.f1) (.int .i64 y.f2) (.int .i64 y.f3) (.int .i64 y.f4) (.string y.f5) (.string y.f6) (.string y.f7) (.slice A8 y.f8.length c8))
   have HBS:=aq (show Below w1.heap.size w1 ((((((((((wr.setCell ⟨G,8,none⟩ (.int .i64 (i : Int))).setCell ⟨G,9,none⟩ (.int .i64 y.f0)).setCell ⟨G,10,none⟩ (.int .i64 y.f1)).setCell ⟨G,11,none⟩ (.int .i64 y.f2)).setCell ⟨G,12,none⟩ (.int .i64 y.f3)).setCell ⟨G,13,none⟩ (.int .i64 y.f4)).setCell ⟨G,14,none⟩ (.string y.f5)).setCell ⟨G,15,none⟩ (.string y.f6)).setCell ⟨G,16,none⟩ (.string y.f7)).setCell ⟨G,17,none⟩ (.slice A8 y.f8.length c8)) from ((((((((((HBR.out.setCell HG1.out.1 _).setCell HG1.out.1 _).setCell HG1.out.1 _).setCell HG1.out.1 _).setCell HG1.out.1 _).setCell HG1.out.1 _).setCell HG1.out.1 _).setCell HG1.out.1 _).setCell HG1.out.1 _).setCell HG1.out.1 _))
   have HBT:=aq (show Below G W2 ((((((((((wr.setCell ⟨G,8,none⟩ (.int .i64 (i : Int))).setCell ⟨G,9,none⟩ (.int .i64 y.f0)).setCell ⟨G,10,none⟩ (.int .i64 y.f1)).setCell ⟨G,11,none⟩ (.int .i64 y.f2)).setCell ⟨G,12,none⟩ (.int .i64 y.f3)).setCell ⟨G,13,none⟩ (.int .i64 y.f4)).setCell ⟨G,14,none⟩ (.string y.f5)).setCell ⟨G,15,none⟩ (.string y.f6)).setCell ⟨G,16,none⟩ (.string y.f7)).setCell ⟨G,17,none⟩ (.slice A8 y.f8.length c8)) from ((((((((((HBL.out.setCell (Nat.le_refl _) _).setCell (Nat.le_refl _) _).setCell (Nat.le_refl _) _).setCell (Nat.le_refl _) _).setCell (Nat.le_refl _) _).setCell (Nat.le_refl _) _).setCell (Nat.le_refl _) _).setCell (Nat.le_refl _) _).setCell (Nat.le_refl _) _).setCell (Nat.le_refl _) _))
   have HL8:=aq hl8
   have HC8:=aq hC8
   have HLI : Aside0 (L.length + 2 ≤ 1048576):=⟨by have h1:=HMD.out.len (Nat.le_of_lt hltX);have h2:=HLE.out;omega⟩
   have HNX:=aq (fun (ins : List CV) (hl : ins.length ≤ 3) (ha : Asked ⟨b0,b1,b2⟩ (i : Int) (getM l0 b0 b1 b2).f5[i] ins (setsV l0 (getM l0 b0 b1 b2).f5[i])) => HMD.out.next hltX hl ha)
   rw [hy] at HNX
   have hd : decide ((i : Int) < (n : Int)) = true:=decide_eq_true (by omega)
   have hi0 : (0 : Int) ≤ (i : Int):=by omega
   have hi1 : (i : Int) < (n : Int):=by omega
   have HLT:=aq hlt
   clear hx hy hl8 hC8 hltX
   go_wp2_with fail
   refine (HPI.out G A8 c8 v L _ HN.out (Kd.C_below HC8.out HBS.out) HL8.out HLI.out (Nat.le_trans (by have:=HG1.out.2;omega) HBT.out.size) (Kd.C_below HRC.out (below_step HB1.out HBS.out)) (Kd.C_below HRS.out (below_step HB1.out HBS.out)) (max_below HMX.out (below_step HB1.out HBS.out))).mono ?_
   rintro e w3 ⟨v3,ins,rfl,hm3,hln,hask,hb3⟩
   have HMN:=aq (HNX.out ins hln hask)
   have HM3:=aq hm3
   have HB3:=aq (HBT.out.trans hb3)
   clear hm3 hb3 hln hask h0 h1 h2 h3 h4 h5 h6 h7 h8 s8 s9 s10 s11 s12 s13 s14 s15 s16 s17 hfg
   go_wp2_with fail
   go_roundg (gk - 1)
   case measure => omega
   case rel => exact ⟨i + 1,(i : Int),.int .i64 y.f0,.int .i64 y.f1,.int .i64 y.f2,.int .i64 y.f3,.int .i64 y.f4,.string y.f5,.string y.f6,.string y.f7,.slice A8 y.f8.length c8,v3,L ++ ins,by rw [show wrap64 ((i : Int) + 1) = ((i + 1 : Nat) : Int) from by have hm:=HCD.out.2.1;have h1:=HLT.out;have h2:=HNN.out;unfold wrap64;omega],by omega,HM3,HB3,HMN⟩
  ·
   have hd : decide ((i : Int) < (n : Int)) = false:=decide_eq_false (by omega)
   obtain rfl : i = n:=by omega
   have s18 : wr.cell? ⟨G,18,none⟩ = some v:=blk_cell HM.out.b 18
   have HFIN:=aq (Kd.R_lower HM.out.r (Nat.le_trans HB1.out.size HG1.out.1))
   have HBF:=aq (below_step HB1.out HBR.out)
   go_wp2_with fail
   exact bodyPost_ret (results_tmp rfl _ _ _) rfl ⟨v,L,rfl,HFIN.out,by rw [← HNN.out];exact HMD.out,HBF.out⟩
end Go.Proofs.Ytfplcohjnlbfjaa.HandV
end

section
namespace Go.Proofs.Ytfplcohjnlbfjaa.Q54
open Go.RowKit Go.Proofs.YtfplcohjnlbfjaaW
open PrintWords PrintLast PrintMore Go.Proofs.Ytfplcohjnlbfjaa.Hand
attribute [local go_sem] max2_int min2_int max_two min_two max_three min_three max_four min_four
def errW : Option Int → Value
  | none => .nilIface
  | some c => .iface 0 (.int .i64 c)
theorem errW_none : errW none = .nilIface := rfl
theorem errW_some (c : Int) : errW (some c) = .iface 0 (.int .i64 c) := rfl
theorem info9 : (Try.prog.info? 9).map (fun i => (i.zero, i.size, i.bytes)) = some (some (.string ⟨#[]⟩), 1, 16) := by kernel_rfl
theorem info97 : (Try.prog.info? 97).map (fun i => (i.zero, i.size, i.bytes)) = some (some (.agg #[(.int .i64 0), (.string ⟨#[]⟩)]), 2, 24) := by kernel_rfl
def sr07_Has.l0 : Nat → ByteArray → Int → Int → Option (Bool)
  | 0,_,_,_ => none
  | k + 1,x0,x1,x5 => if x5 < (x0.size : Int) then (if 0 ≤ x5 then (if (bt x0 x5) = x1 then (some true) else (sr07_Has.l0 k x0 x1 (wrap64 (x5 + 1)))) else (none)) else (some false)
def sr07_Has.f (k : Nat) (a0 : ByteArray) (a1 : Int) : Option (Bool) := sr07_Has.l0 k a0 a1 0
theorem sr07_Has.calls (k : Nat) (a0 : ByteArray) (a1 : Int) (r : Bool) (w : World) (h : sr07_Has.f k a0 a1 = some r) :
    Calls Try.prog 74 #[.string a0,.int .u8 a1] w fun e w' => e = .returned (.bool r) ∧ Drawn0 w w':=by
 have H : (sr07_Has.l0 k a0 a1 0) = some r:=h
 clear h
 have H':=aq H
 clear H
 go_enter Try.func74,Try.ntmps74
 go_wp2
 go_loopg [5] k (fun kq v5 w' => ∃ (x5_1 : Int),v5 = .int .i64 x5_1 ∧ Aside0 (sr07_Has.l0 kq a0 a1 x5_1 = some r) ∧ Aside0 (kq ≤ k) ∧ Drawn0 w w')
 case atStart => exact ⟨(0),eS,H',⟨Nat.le_refl _⟩,dR⟩
 case round =>
 clear H'
 obtain ⟨x5_1,rfl,HA,HK1,⟨m1,rfl⟩⟩:=hrel
 cases gk with
 | zero => exact absurd HA.out (by simp [sr07_Has.l0])
 | succ k1 =>
 have H:=HA.out
 clear HA
 simp only [sr07_Has.l0] at H
 by_cases c3 : x5_1 < (a0.size : Int)
 rotate_left
 · rw [if_neg c3] at H
   have c3b0 : decide (x5_1 < (a0.size : Int)) = false:=decide_eq_false c3
   clear c3
   obtain rfl:=Option.some.inj H
   go_wp2
   go_ret
   exact ⟨eS,dR⟩
 rw [if_pos c3] at H
 have c3b0 : decide (x5_1 < (a0.size : Int)) = true:=decide_eq_true c3
 clear c3
 by_cases c4 : 0 ≤ x5_1
 rotate_left
 · rw [if_neg c4] at H
   exact absurd H (by simp)
 rw [if_pos c4] at H
 have c4b0 : decide (0 ≤ x5_1) = true:=decide_eq_true c4
 clear c4
 by_cases c6 : (bt a0 x5_1) = a1
 · rw [if_pos c6] at H
   have c6b0 : ((bt a0 x5_1) == a1) = true:=beq_iff_eq.mpr c6
   have c6b1 : ((bt a0 x5_1) != a1) = false:=bne_eq_false_iff_eq.mpr c6
   clear c6
   obtain rfl:=Option.some.inj H
   have p5 : 0 ≤ (x5_1 : Int):=of_decide_eq_true aS
   have q5 : x5_1 < (a0.size : Int):=of_decide_eq_true aS
   have hx5:=bt_at a0 x5_1
   replace p5:=eq_true p5
   replace q5:=eq_true q5
   go_wp2
   go_ret
   exact ⟨eS,dR⟩
 rw [if_neg c6] at H
 have c6b0 : ((bt a0 x5_1) == a1) = false:=beq_eq_false_iff_ne.mpr c6
 have c6b1 : ((bt a0 x5_1) != a1) = true:=bne_iff_ne.mpr c6
 have H':=aq H
 clear H
 have p5 : 0 ≤ (x5_1 : Int):=of_decide_eq_true aS
 have q5 : x5_1 < (a0.size : Int):=of_decide_eq_true aS
 have hx5:=bt_at a0 x5_1
 replace p5:=eq_true p5
 replace q5:=eq_true q5
 go_wp2
 go_roundg k1
 case measure => have:=HK1.out;omega
 case rel => exact ⟨(wrap64 (x5_1 + 1)),eS,H',⟨by have:=HK1.out;omega⟩,dR⟩
mutual
def sr07_Shape.j0 : Nat → Int → Bool → Option (ByteArray)
  | 0,_,_ => none
  | k + 1,x3,x6 => if x6 = true then (some (⟨#[97]⟩ : ByteArray)) else (if x3 = 4 then (sr07_Shape.j1 k x3 (x3 == 4)) else (if x3 = 10 then (sr07_Shape.j1 k x3 (x3 == 10)) else (if x3 = 12 then (sr07_Shape.j1 k x3 (x3 == 12)) else (if x3 = 28 then (sr07_Shape.j1 k x3 (x3 == 28)) else (sr07_Shape.j1 k x3 (x3 == 29))))))
def sr07_Shape.j1 : Nat → Int → Bool → Option (ByteArray)
  | 0,_,_ => none
  | k + 1,x3,x9 => if x9 = true then (some (⟨#[97,98]⟩ : ByteArray)) else (if x3 = 5 then (some (⟨#[97,98,99,114]⟩ : ByteArray)) else (if x3 = 6 then (some (⟨#[116]⟩ : ByteArray)) else (if x3 = 7 then (sr07_Shape.j2 k x3 (x3 == 7)) else (sr07_Shape.j2 k x3 (x3 == 8)))))
def sr07_Shape.j2 : Nat → Int → Bool → Option (ByteArray)
  | 0,_,_ => none
  | k + 1,x3,x19 => if x19 = true then (some (⟨#[98,116]⟩ : ByteArray)) else (if x3 = 9 then (some (⟨#[97,67]⟩ : ByteArray)) else (if x3 = 11 then (sr07_Shape.j3 k x3 (x3 == 11)) else (if x3 = 24 then (sr07_Shape.j3 k x3 (x3 == 24)) else (sr07_Shape.j3 k x3 (x3 == 25)))))
def sr07_Shape.j3 : Nat → Int → Bool → Option (ByteArray)
  | 0,_,_ => none
  | k + 1,x3,x24 => if x24 = true then (some (⟨#[97,98,67]⟩ : ByteArray)) else (if x3 = 13 then (sr07_Shape.j4 k x3 (x3 == 13)) else (sr07_Shape.j4 k x3 (x3 == 14)))
def sr07_Shape.j4 : Nat → Int → Bool → Option (ByteArray)
  | 0,_,_ => none
  | k + 1,x3,x28 => if x28 = true then (some (⟨#[97,98,99]⟩ : ByteArray)) else (if x3 = 15 then (some (⟨#[97,98,70]⟩ : ByteArray)) else (if x3 = 16 then (some (⟨#[98,99,70]⟩ : ByteArray)) else (if x3 = 17 then (some (⟨#[97,70]⟩ : ByteArray)) else (if x3 = 18 then (some (⟨#[99,70]⟩ : ByteArray)) else (if x3 = 19 then (sr07_Shape.j5 k x3 (x3 == 19)) else (if x3 = 20 then (sr07_Shape.j5 k x3 (x3 == 20)) else (sr07_Shape.j5 k x3 (x3 == 21))))))))
def sr07_Shape.j5 : Nat → Int → Bool → Option (ByteArray)
  | 0,_,_ => none
  | k + 1,x3,x39 => if x39 = true then (some (⟨#[97,77,118]⟩ : ByteArray)) else (if x3 = 22 then (sr07_Shape.j6 k x3 (x3 == 22)) else (if x3 = 27 then (sr07_Shape.j6 k x3 (x3 == 27)) else (sr07_Shape.j6 k x3 (x3 == 31))))
def sr07_Shape.j6 : Nat → Int → Bool → Option (ByteArray)
  | 0,_,_ => none
  | k + 1,x3,x43 => if x43 = true then (some (⟨#[98]⟩ : ByteArray)) else (if x3 = 30 then (some (⟨#[107]⟩ : ByteArray)) else (if x3 = 32 then (some (⟨#[67]⟩ : ByteArray)) else (some (⟨#[]⟩ : ByteArray))))
end
def sr07_Shape.f (k : Nat) (a0 : Int) : Option (ByteArray) := if a0 = 2 then (some (⟨#[97, 107]⟩ : ByteArray)) else (if a0 = 3 then (sr07_Shape.j0 k a0 (a0 == 3)) else (sr07_Shape.j0 k a0 (a0 == 26)))
theorem sr07_Shape.calls (k : Nat) (a0 : Int) (r : ByteArray) (w : World) (h : sr07_Shape.f k a0 = some r) :
    Calls Try.prog 75 #[.int .i64 a0] w fun e w' => e = .returned (.string r) ∧ Drawn0 w w':=by
 have H : (if a0 = 2 then (some (⟨#[97,107]⟩ : ByteArray)) else (if a0 = 3 then (sr07_Shape.j0 k a0 (a0 == 3)) else (sr07_Shape.j0 k a0 (a0 == 26)))) = some r:=h
 clear h
 by_cases c2 : a0 = 2
 · rw [if_pos c2] at H
   have c2b0 : (a0 == 2) = true:=beq_iff_eq.mpr c2
   have c2b1 : (a0 != 2) = false:=bne_eq_false_iff_eq.mpr c2
   clear c2
   obtain rfl:=Option.some.inj H
   go_enter Try.func75,Try.ntmps75
   go_wp2
   go_ret
   exact ⟨eS,dR⟩
 rw [if_neg c2] at H
 have c2b0 : (a0 == 2) = false:=beq_eq_false_iff_ne.mpr c2
 have c2b1 : (a0 != 2) = true:=bne_iff_ne.mpr c2
 have HC3:=aq H
 clear H
 go_enter Try.func75,Try.ntmps75
 go_upto_if 6 with (fail)
 go_cut [6] (fun v6 wc => ∃ (kq : Nat) (x6_2 : Bool),v6 = .bool x6_2 ∧ Aside0 (sr07_Shape.j0 kq a0 x6_2 = some r) ∧ Aside0 (kq ≤ k) ∧ Drawn0 w wc)
 case first =>
  have H:=HC3.out
  clear HC3
  by_cases c4 : a0 = 3
  rotate_left
  · rw [if_neg c4] at H
    have c4b0 : (a0 == 3) = false:=beq_eq_false_iff_ne.mpr c4
    have c4b1 : (a0 != 3) = true:=bne_iff_ne.mpr c4
    (first|rw [c4b0]|rw [c4b1]|(simp only [i64_w,i32_w];rw [c4b0])|skip)
    have H':=aq H
    clear H
    go_wp2
    go_meet
    case rel => exact ⟨_,((a0 == 26)),eS,H',⟨by first|omega|exact Nat.le_refl _⟩,dR⟩
  rw [if_pos c4] at H
  have c4b0 : (a0 == 3) = true:=beq_iff_eq.mpr c4
  have c4b1 : (a0 != 3) = false:=bne_eq_false_iff_eq.mpr c4
  clear c4
  (first|rw [c4b0]|rw [c4b1]|(simp only [i64_w,i32_w];rw [c4b0])|skip)
  have H':=aq H
  clear H
  go_wp2
  go_meet
  case rel => exact ⟨_,((a0 == 3)),eS,H',⟨by first|omega|exact Nat.le_refl _⟩,dR⟩
 case rest =>
 clear HC3
 (try clear c2);(try clear c2b0);(try clear c2b1)
 obtain ⟨kq,x6_2,rfl,HA,HJ2,⟨mc2,rfl⟩⟩:=hcut
 cases kq with
 | zero => exact absurd HA.out (by simp [sr07_Shape.j0])
 | succ kj2 =>
 have H:=HA.out
 clear HA
 simp only [sr07_Shape.j0] at H
 by_cases c5 : x6_2 = true
 · subst c5
   have H1 : (some (⟨#[97]⟩ : ByteArray)) = some r:=by rw [if_pos rfl] at H;exact H
   clear H
   have H:=H1
   clear H1
   obtain rfl:=Option.some.inj H
   go_wp2
   go_ret
   exact ⟨eS,dR⟩
 replace c5:=Bool.eq_false_iff.mpr c5
 subst c5
 have H1 : (if a0 = 4 then (sr07_Shape.j1 kj2 a0 (a0 == 4)) else (if a0 = 10 then (sr07_Shape.j1 kj2 a0 (a0 == 10)) else (if a0 = 12 then (sr07_Shape.j1 kj2 a0 (a0 == 12)) else (if a0 = 28 then (sr07_Shape.j1 kj2 a0 (a0 == 28)) else (sr07_Shape.j1 kj2 a0 (a0 == 29)))))) = some r:=by rw [if_neg (show ¬ (false = true) by decide)] at H;exact H
 clear H
 have H:=H1
 clear H1
 have HC6:=aq H
 clear H
 go_upto_if 9 with (fail)
 go_cut [9] (fun v9 wc => ∃ (kq : Nat) (x9_5 : Bool),v9 = .bool x9_5 ∧ Aside0 (sr07_Shape.j1 kq a0 x9_5 = some r) ∧ Aside0 (kq ≤ kj2) ∧ Drawn0 w wc)
 case first =>
  have H:=HC6.out
  clear HC6
  by_cases c7 : a0 = 4
  · rw [if_pos c7] at H
    have c7b0 : (a0 == 4) = true:=beq_iff_eq.mpr c7
    have c7b1 : (a0 != 4) = false:=bne_eq_false_iff_eq.mpr c7
    clear c7
    (first|rw [c7b0]|rw [c7b1]|(simp only [i64_w,i32_w];rw [c7b0])|skip)
    have H':=aq H
    clear H
    go_wp2
    go_meet
    case rel => exact ⟨_,((a0 == 4)),eS,H',⟨by have:=HJ2.out;first|omega|exact Nat.le_refl _⟩,dR⟩
  rw [if_neg c7] at H
  have c7b0 : (a0 == 4) = false:=beq_eq_false_iff_ne.mpr c7
  have c7b1 : (a0 != 4) = true:=bne_iff_ne.mpr c7
  (first|rw [c7b0]|rw [c7b1]|(simp only [i64_w,i32_w];rw [c7b0])|skip)
  by_cases c8 : a0 = 10
  · rw [if_pos c8] at H
    have c8b0 : (a0 == 10) = true:=beq_iff_eq.mpr c8
    have c8b1 : (a0 != 10) = false:=bne_eq_false_iff_eq.mpr c8
    clear c8
    have H':=aq H
    clear H
    go_wp2
    go_meet
    case rel => exact ⟨_,((a0 == 10)),eS,H',⟨by have:=HJ2.out;first|omega|exact Nat.le_refl _⟩,dR⟩
  rw [if_neg c8] at H
  have c8b0 : (a0 == 10) = false:=beq_eq_false_iff_ne.mpr c8
  have c8b1 : (a0 != 10) = true:=bne_iff_ne.mpr c8
  by_cases c9 : a0 = 12
  · rw [if_pos c9] at H
    have c9b0 : (a0 == 12) = true:=beq_iff_eq.mpr c9
    have c9b1 : (a0 != 12) = false:=bne_eq_false_iff_eq.mpr c9
    clear c9
    have H':=aq H
    clear H
    go_wp2
    go_meet
    case rel => exact ⟨_,((a0 == 12)),eS,H',⟨by have:=HJ2.out;first|omega|exact Nat.le_refl _⟩,dR⟩
  rw [if_neg c9] at H
  have c9b0 : (a0 == 12) = false:=beq_eq_false_iff_ne.mpr c9
  have c9b1 : (a0 != 12) = true:=bne_iff_ne.mpr c9
  by_cases c10 : a0 = 28
  rotate_left
  · rw [if_neg c10] at H
    have c10b0 : (a0 == 28) = false:=beq_eq_false_iff_ne.mpr c10
    have c10b1 : (a0 != 28) = true:=bne_iff_ne.mpr c10
    have H':=aq H
    clear H
    go_wp2
    go_meet
    case rel => exact ⟨_,((a0 == 29)),eS,H',⟨by have:=HJ2.out;first|omega|exact Nat.le_refl _⟩,dR⟩
  rw [if_pos c10] at H
  have c10b0 : (a0 == 28) = true:=beq_iff_eq.mpr c10
  have c10b1 : (a0 != 28) = false:=bne_eq_false_iff_eq.mpr c10
  clear c10
  have H':=aq H
  clear H
  go_wp2
  go_meet
  case rel => exact ⟨_,((a0 == 28)),eS,H',⟨by have:=HJ2.out;first|omega|exact Nat.le_refl _⟩,dR⟩
 case rest =>
 clear HC6
 (try clear c2);(try clear c2b0);(try clear c2b1);(try clear c5)
 obtain ⟨kq,x9_5,rfl,HA,HJ5,⟨mc5,rfl⟩⟩:=hcut
 cases kq with
 | zero => exact absurd HA.out (by simp [sr07_Shape.j1])
 | succ kj5 =>
 have H:=HA.out
 clear HA
 simp only [sr07_Shape.j1] at H
 by_cases c11 : x9_5 = true
 · subst c11
   have H1 : (some (⟨#[97,98]⟩ : ByteArray)) = some r:=by rw [if_pos rfl] at H;exact H
   clear H
   have H:=H1
   clear H1
   obtain rfl:=Option.some.inj H
   go_wp2
   go_ret
   exact ⟨eS,dR⟩
 replace c11:=Bool.eq_false_iff.mpr c11
 subst c11
 have H1 : (if a0 = 5 then (some (⟨#[97,98,99,114]⟩ : ByteArray)) else (if a0 = 6 then (some (⟨#[116]⟩ : ByteArray)) else (if a0 = 7 then (sr07_Shape.j2 kj5 a0 (a0 == 7)) else (sr07_Shape.j2 kj5 a0 (a0 == 8))))) = some r:=by rw [if_neg (show ¬ (false = true) by decide)] at H;exact H
 clear H
 have H:=H1
 clear H1
 by_cases c12 : a0 = 5
 · rw [if_pos c12] at H
   have c12b0 : (a0 == 5) = true:=beq_iff_eq.mpr c12
   have c12b1 : (a0 != 5) = false:=bne_eq_false_iff_eq.mpr c12
   clear c12
   obtain rfl:=Option.some.inj H
   go_wp2
   go_ret
   exact ⟨eS,dR⟩
 rw [if_neg c12] at H
 have c12b0 : (a0 == 5) = false:=beq_eq_false_iff_ne.mpr c12
 have c12b1 : (a0 != 5) = true:=bne_iff_ne.mpr c12
 by_cases c13 : a0 = 6
 · rw [if_pos c13] at H
   have c13b0 : (a0 == 6) = true:=beq_iff_eq.mpr c13
   have c13b1 : (a0 != 6) = false:=bne_eq_false_iff_eq.mpr c13
   clear c13
   obtain rfl:=Option.some.inj H
   go_wp2
   go_ret
   exact ⟨eS,dR⟩
 rw [if_neg c13] at H
 have c13b0 : (a0 == 6) = false:=beq_eq_false_iff_ne.mpr c13
 have c13b1 : (a0 != 6) = true:=bne_iff_ne.mpr c13
 have HC14:=aq H
 clear H
 go_upto_if 19 with (fail)
 go_cut [19] (fun v19 wc => ∃ (kq : Nat) (x19_13 : Bool),v19 = .bool x19_13 ∧ Aside0 (sr07_Shape.j2 kq a0 x19_13 = some r) ∧ Aside0 (kq ≤ kj5) ∧ Drawn0 w wc)
 case first =>
  have H:=HC14.out
  clear HC14
  by_cases c15 : a0 = 7
  rotate_left
  · rw [if_neg c15] at H
    have c15b0 : (a0 == 7) = false:=beq_eq_false_iff_ne.mpr c15
    have c15b1 : (a0 != 7) = true:=bne_iff_ne.mpr c15
    (first|rw [c15b0]|rw [c15b1]|(simp only [i64_w,i32_w];rw [c15b0])|skip)
    have H':=aq H
    clear H
    go_wp2
    go_meet
    case rel => exact ⟨_,((a0 == 8)),eS,H',⟨by have:=HJ2.out;have:=HJ5.out;first|omega|exact Nat.le_refl _⟩,dR⟩
  rw [if_pos c15] at H
  have c15b0 : (a0 == 7) = true:=beq_iff_eq.mpr c15
  have c15b1 : (a0 != 7) = false:=bne_eq_false_iff_eq.mpr c15
  clear c15
  (first|rw [c15b0]|rw [c15b1]|(simp only [i64_w,i32_w];rw [c15b0])|skip)
  have H':=aq H
  clear H
  go_wp2
  go_meet
  case rel => exact ⟨_,((a0 == 7)),eS,H',⟨by have:=HJ2.out;have:=HJ5.out;first|omega|exact Nat.le_refl _⟩,dR⟩
 case rest =>
 clear HC14
 (try clear c2);(try clear c2b0);(try clear c2b1);(try clear c5);(try clear c11);(try clear c12);(try clear c12b0);(try clear c12b1);(try clear c13);(try clear c13b0);(try clear c13b1)
 obtain ⟨kq,x19_13,rfl,HA,HJ13,⟨mc13,rfl⟩⟩:=hcut
 cases kq with
 | zero => exact absurd HA.out (by simp [sr07_Shape.j2])
 | succ kj13 =>
 have H:=HA.out
 clear HA
 simp only [sr07_Shape.j2] at H
 by_cases c16 : x19_13 = true
 · subst c16
   have H1 : (some (⟨#[98,116]⟩ : ByteArray)) = some r:=by rw [if_pos rfl] at H;exact H
   clear H
   have H:=H1
   clear H1
   obtain rfl:=Option.some.inj H
   go_wp2
   go_ret
   exact ⟨eS,dR⟩
 replace c16:=Bool.eq_false_iff.mpr c16
 subst c16
 have H1 : (if a0 = 9 then (some (⟨#[97,67]⟩ : ByteArray)) else (if a0 = 11 then (sr07_Shape.j3 kj13 a0 (a0 == 11)) else (if a0 = 24 then (sr07_Shape.j3 kj13 a0 (a0 == 24)) else (sr07_Shape.j3 kj13 a0 (a0 == 25))))) = some r:=by rw [if_neg (show ¬ (false = true) by decide)] at H;exact H
 clear H
 have H:=H1
 clear H1
 by_cases c17 : a0 = 9
 · rw [if_pos c17] at H
   have c17b0 : (a0 == 9) = true:=beq_iff_eq.mpr c17
   have c17b1 : (a0 != 9) = false:=bne_eq_false_iff_eq.mpr c17
   clear c17
   obtain rfl:=Option.some.inj H
   go_wp2
   go_ret
   exact ⟨eS,dR⟩
 rw [if_neg c17] at H
 have c17b0 : (a0 == 9) = false:=beq_eq_false_iff_ne.mpr c17
 have c17b1 : (a0 != 9) = true:=bne_iff_ne.mpr c17
 have HC18:=aq H
 clear H
 go_upto_if 24 with (fail)
 go_cut [24] (fun v24 wc => ∃ (kq : Nat) (x24_17 : Bool),v24 = .bool x24_17 ∧ Aside0 (sr07_Shape.j3 kq a0 x24_17 = some r) ∧ Aside0 (kq ≤ kj13) ∧ Drawn0 w wc)
 case first =>
  have H:=HC18.out
  clear HC18
  by_cases c19 : a0 = 11
  · rw [if_pos c19] at H
    have c19b0 : (a0 == 11) = true:=beq_iff_eq.mpr c19
    have c19b1 : (a0 != 11) = false:=bne_eq_false_iff_eq.mpr c19
    clear c19
    (first|rw [c19b0]|rw [c19b1]|(simp only [i64_w,i32_w];rw [c19b0])|skip)
    have H':=aq H
    clear H
    go_wp2
    go_meet
    case rel => exact ⟨_,((a0 == 11)),eS,H',⟨by have:=HJ2.out;have:=HJ5.out;have:=HJ13.out;first|omega|exact Nat.le_refl _⟩,dR⟩
  rw [if_neg c19] at H
  have c19b0 : (a0 == 11) = false:=beq_eq_false_iff_ne.mpr c19
  have c19b1 : (a0 != 11) = true:=bne_iff_ne.mpr c19
  (first|rw [c19b0]|rw [c19b1]|(simp only [i64_w,i32_w];rw [c19b0])|skip)
  by_cases c20 : a0 = 24
  rotate_left
  · rw [if_neg c20] at H
    have c20b0 : (a0 == 24) = false:=beq_eq_false_iff_ne.mpr c20
    have c20b1 : (a0 != 24) = true:=bne_iff_ne.mpr c20
    have H':=aq H
    clear H
    go_wp2
    go_meet
    case rel => exact ⟨_,((a0 == 25)),eS,H',⟨by have:=HJ2.out;have:=HJ5.out;have:=HJ13.out;first|omega|exact Nat.le_refl _⟩,dR⟩
  rw [if_pos c20] at H
  have c20b0 : (a0 == 24) = true:=beq_iff_eq.mpr c20
  have c20b1 : (a0 != 24) = false:=bne_eq_false_iff_eq.mpr c20
  clear c20
  have H':=aq H
  clear H
  go_wp2
  go_meet
  case rel => exact ⟨_,((a0 == 24)),eS,H',⟨by have:=HJ2.out;have:=HJ5.out;have:=HJ13.out;first|omega|exact Nat.le_refl _⟩,dR⟩
 case rest =>
 clear HC18
 (try clear c2);(try clear c2b0);(try clear c2b1);(try clear c5);(try clear c11);(try clear c12);(try clear c12b0);(try clear c12b1);(try clear c13);(try clear c13b0);(try clear c13b1);(try clear c16);(try clear c17);(try clear c17b0);(try clear c17b1)
 obtain ⟨kq,x24_17,rfl,HA,HJ17,⟨mc17,rfl⟩⟩:=hcut
 cases kq with
 | zero => exact absurd HA.out (by simp [sr07_Shape.j3])
 | succ kj17 =>
 have H:=HA.out
 clear HA
 simp only [sr07_Shape.j3] at H
 by_cases c21 : x24_17 = true
 · subst c21
   have H1 : (some (⟨#[97,98,67]⟩ : ByteArray)) = some r:=by rw [if_pos rfl] at H;exact H
   clear H
   have H:=H1
   clear H1
   obtain rfl:=Option.some.inj H
   go_wp2
   go_ret
   exact ⟨eS,dR⟩
 replace c21:=Bool.eq_false_iff.mpr c21
 subst c21
 have H1 : (if a0 = 13 then (sr07_Shape.j4 kj17 a0 (a0 == 13)) else (sr07_Shape.j4 kj17 a0 (a0 == 14))) = some r:=by rw [if_neg (show ¬ (false = true) by decide)] at H;exact H
 clear H
 have H:=H1
 clear H1
 have HC22:=aq H
 clear H
 go_upto_if 28 with (fail)
 go_cut [28] (fun v28 wc => ∃ (kq : Nat) (x28_21 : Bool),v28 = .bool x28_21 ∧ Aside0 (sr07_Shape.j4 kq a0 x28_21 = some r) ∧ Aside0 (kq ≤ kj17) ∧ Drawn0 w wc)
 case first =>
  have H:=HC22.out
  clear HC22
  by_cases c23 : a0 = 13
  rotate_left
  · rw [if_neg c23] at H
    have c23b0 : (a0 == 13) = false:=beq_eq_false_iff_ne.mpr c23
    have c23b1 : (a0 != 13) = true:=bne_iff_ne.mpr c23
    (first|rw [c23b0]|rw [c23b1]|(simp only [i64_w,i32_w];rw [c23b0])|skip)
    have H':=aq H
    clear H
    go_wp2
    go_meet
    case rel => exact ⟨_,((a0 == 14)),eS,H',⟨by have:=HJ2.out;have:=HJ5.out;have:=HJ13.out;have:=HJ17.out;first|omega|exact Nat.le_refl _⟩,dR⟩
  rw [if_pos c23] at H
  have c23b0 : (a0 == 13) = true:=beq_iff_eq.mpr c23
  have c23b1 : (a0 != 13) = false:=bne_eq_false_iff_eq.mpr c23
  clear c23
  (first|rw [c23b0]|rw [c23b1]|(simp only [i64_w,i32_w];rw [c23b0])|skip)
  have H':=aq H
  clear H
  go_wp2
  go_meet
  case rel => exact ⟨_,((a0 == 13)),eS,H',⟨by have:=HJ2.out;have:=HJ5.out;have:=HJ13.out;have:=HJ17.out;first|omega|exact Nat.le_refl _⟩,dR⟩
 case rest =>
 clear HC22
 (try clear c2);(try clear c2b0);(try clear c2b1);(try clear c5);(try clear c11);(try clear c12);(try clear c12b0);(try clear c12b1);(try clear c13);(try clear c13b0);(try clear c13b1);(try clear c16);(try clear c17);(try clear c17b0);(try clear c17b1);(try clear c21)
 obtain ⟨kq,x28_21,rfl,HA,HJ21,⟨mc21,rfl⟩⟩:=hcut
 cases kq with
 | zero => exact absurd HA.out (by simp [sr07_Shape.j4])
 | succ kj21 =>
 have H:=HA.out
 clear HA
 simp only [sr07_Shape.j4] at H
 by_cases c24 : x28_21 = true
 · subst c24
   have H1 : (some (⟨#[97,98,99]⟩ : ByteArray)) = some r:=by rw [if_pos rfl] at H;exact H
   clear H
   have H:=H1
   clear H1
   obtain rfl:=Option.some.inj H
   go_wp2
   go_ret
   exact ⟨eS,dR⟩
 replace c24:=Bool.eq_false_iff.mpr c24
 subst c24
 have H1 : (if a0 = 15 then (some (⟨#[97,98,70]⟩ : ByteArray)) else (if a0 = 16 then (some (⟨#[98,99,70]⟩ : ByteArray)) else (if a0 = 17 then (some (⟨#[97,70]⟩ : ByteArray)) else (if a0 = 18 then (some (⟨#[99,70]⟩ : ByteArray)) else (if a0 = 19 then (sr07_Shape.j5 kj21 a0 (a0 == 19)) else (if a0 = 20 then (sr07_Shape.j5 kj21 a0 (a0 == 20)) else (sr07_Shape.j5 kj21 a0 (a0 == 21)))))))) = some r:=by rw [if_neg (show ¬ (false = true) by decide)] at H;exact H
 clear H
 have H:=H1
 clear H1
 by_cases c25 : a0 = 15
 · rw [if_pos c25] at H
   have c25b0 : (a0 == 15) = true:=beq_iff_eq.mpr c25
   have c25b1 : (a0 != 15) = false:=bne_eq_false_iff_eq.mpr c25
   clear c25
   obtain rfl:=Option.some.inj H
   go_wp2
   go_ret
   exact ⟨eS,dR⟩
 rw [if_neg c25] at H
 have c25b0 : (a0 == 15) = false:=beq_eq_false_iff_ne.mpr c25
 have c25b1 : (a0 != 15) = true:=bne_iff_ne.mpr c25
 by_cases c26 : a0 = 16
 · rw [if_pos c26] at H
   have c26b0 : (a0 == 16) = true:=beq_iff_eq.mpr c26
   have c26b1 : (a0 != 16) = false:=bne_eq_false_iff_eq.mpr c26
   clear c26
   obtain rfl:=Option.some.inj H
   go_wp2
   go_ret
   exact ⟨eS,dR⟩
 rw [if_neg c26] at H
 have c26b0 : (a0 == 16) = false:=beq_eq_false_iff_ne.mpr c26
 have c26b1 : (a0 != 16) = true:=bne_iff_ne.mpr c26
 by_cases c27 : a0 = 17
 · rw [if_pos c27] at H
   have c27b0 : (a0 == 17) = true:=beq_iff_eq.mpr c27
   have c27b1 : (a0 != 17) = false:=bne_eq_false_iff_eq.mpr c27
   clear c27
   obtain rfl:=Option.some.inj H
   go_wp2
   go_ret
   exact ⟨eS,dR⟩
 rw [if_neg c27] at H
 have c27b0 : (a0 == 17) = false:=beq_eq_false_iff_ne.mpr c27
 have c27b1 : (a0 != 17) = true:=bne_iff_ne.mpr c27
 by_cases c28 : a0 = 18
 · rw [if_pos c28] at H
   have c28b0 : (a0 == 18) = true:=beq_iff_eq.mpr c28
   have c28b1 : (a0 != 18) = false:=bne_eq_false_iff_eq.mpr c28
   clear c28
   obtain rfl:=Option.some.inj H
   go_wp2
   go_ret
   exact ⟨eS,dR⟩
 rw [if_neg c28] at H
 have c28b0 : (a0 == 18) = false:=beq_eq_false_iff_ne.mpr c28
 have c28b1 : (a0 != 18) = true:=bne_iff_ne.mpr c28
 have HC29:=aq H
 clear H
 go_upto_if 39 with (fail)
 go_cut [39] (fun v39 wc => ∃ (kq : Nat) (x39_28 : Bool),v39 = .bool x39_28 ∧ Aside0 (sr07_Shape.j5 kq a0 x39_28 = some r) ∧ Aside0 (kq ≤ kj21) ∧ Drawn0 w wc)
 case first =>
  have H:=HC29.out
  clear HC29
  by_cases c30 : a0 = 19
  · rw [if_pos c30] at H
    have c30b0 : (a0 == 19) = true:=beq_iff_eq.mpr c30
    have c30b1 : (a0 != 19) = false:=bne_eq_false_iff_eq.mpr c30
    clear c30
    (first|rw [c30b0]|rw [c30b1]|(simp only [i64_w,i32_w];rw [c30b0])|skip)
    have H':=aq H
    clear H
    go_wp2
    go_meet
    case rel => exact ⟨_,((a0 == 19)),eS,H',⟨by have:=HJ2.out;have:=HJ5.out;have:=HJ13.out;have:=HJ17.out;have:=HJ21.out;first|omega|exact Nat.le_refl _⟩,dR⟩
  rw [if_neg c30] at H
  have c30b0 : (a0 == 19) = false:=beq_eq_false_iff_ne.mpr c30
  have c30b1 : (a0 != 19) = true:=bne_iff_ne.mpr c30
  (first|rw [c30b0]|rw [c30b1]|(simp only [i64_w,i32_w];rw [c30b0])|skip)
  by_cases c31 : a0 = 20
  rotate_left
  · rw [if_neg c31] at H
    have c31b0 : (a0 == 20) = false:=beq_eq_false_iff_ne.mpr c31
    have c31b1 : (a0 != 20) = true:=bne_iff_ne.mpr c31
    have H':=aq H
    clear H
    go_wp2
    go_meet
    case rel => exact ⟨_,((a0 == 21)),eS,H',⟨by have:=HJ2.out;have:=HJ5.out;have:=HJ13.out;have:=HJ17.out;have:=HJ21.out;first|omega|exact Nat.le_refl _⟩,dR⟩
  rw [if_pos c31] at H
  have c31b0 : (a0 == 20) = true:=beq_iff_eq.mpr c31
  have c31b1 : (a0 != 20) = false:=bne_eq_false_iff_eq.mpr c31
  clear c31
  have H':=aq H
  clear H
  go_wp2
  go_meet
  case rel => exact ⟨_,((a0 == 20)),eS,H',⟨by have:=HJ2.out;have:=HJ5.out;have:=HJ13.out;have:=HJ17.out;have:=HJ21.out;first|omega|exact Nat.le_refl _⟩,dR⟩
 case rest =>
 clear HC29
 (try clear c2);(try clear c2b0);(try clear c2b1);(try clear c5);(try clear c11);(try clear c12);(try clear c12b0);(try clear c12b1);(try clear c13);(try clear c13b0);(try clear c13b1);(try clear c16);(try clear c17);(try clear c17b0);(try clear c17b1);(try clear c21);(try clear c24);(try clear c25);(try clear c25b0);(try clear c25b1);(try clear c26);(try clear c26b0);(try clear c26b1);(try clear c27);(try clear c27b0);(try clear c27b1);(try clear c28);(try clear c28b0);(try clear c28b1)
 obtain ⟨kq,x39_28,rfl,HA,HJ28,⟨mc28,rfl⟩⟩:=hcut
 cases kq with
 | zero => exact absurd HA.out (by simp [sr07_Shape.j5])
 | succ kj28 =>
 have H:=HA.out
 clear HA
 simp only [sr07_Shape.j5] at H
 by_cases c32 : x39_28 = true
 · subst c32
   have H1 : (some (⟨#[97,77,118]⟩ : ByteArray)) = some r:=by rw [if_pos rfl] at H;exact H
   clear H
   have H:=H1
   clear H1
   obtain rfl:=Option.some.inj H
   go_wp2
   go_ret
   exact ⟨eS,dR⟩
 replace c32:=Bool.eq_false_iff.mpr c32
 subst c32
 have H1 : (if a0 = 22 then (sr07_Shape.j6 kj28 a0 (a0 == 22)) else (if a0 = 27 then (sr07_Shape.j6 kj28 a0 (a0 == 27)) else (sr07_Shape.j6 kj28 a0 (a0 == 31)))) = some r:=by rw [if_neg (show ¬ (false = true) by decide)] at H;exact H
 clear H
 have H:=H1
 clear H1
 have HC33:=aq H
 clear H
 go_upto_if 43 with (fail)
 go_cut [43] (fun v43 wc => ∃ (kq : Nat) (x43_32 : Bool),v43 = .bool x43_32 ∧ Aside0 (sr07_Shape.j6 kq a0 x43_32 = some r) ∧ Aside0 (kq ≤ kj28) ∧ Drawn0 w wc)
 case first =>
  have H:=HC33.out
  clear HC33
  by_cases c34 : a0 = 22
  · rw [if_pos c34] at H
    have c34b0 : (a0 == 22) = true:=beq_iff_eq.mpr c34
    have c34b1 : (a0 != 22) = false:=bne_eq_false_iff_eq.mpr c34
    clear c34
    (first|rw [c34b0]|rw [c34b1]|(simp only [i64_w,i32_w];rw [c34b0])|skip)
    have H':=aq H
    clear H
    go_wp2
    go_meet
    case rel => exact ⟨_,((a0 == 22)),eS,H',⟨by have:=HJ2.out;have:=HJ5.out;have:=HJ13.out;have:=HJ17.out;have:=HJ21.out;have:=HJ28.out;first|omega|exact Nat.le_refl _⟩,dR⟩
  rw [if_neg c34] at H
  have c34b0 : (a0 == 22) = false:=beq_eq_false_iff_ne.mpr c34
  have c34b1 : (a0 != 22) = true:=bne_iff_ne.mpr c34
  (first|rw [c34b0]|rw [c34b1]|(simp only [i64_w,i32_w];rw [c34b0])|skip)
  by_cases c35 : a0 = 27
  rotate_left
  · rw [if_neg c35] at H
    have c35b0 : (a0 == 27) = false:=beq_eq_false_iff_ne.mpr c35
    have c35b1 : (a0 != 27) = true:=bne_iff_ne.mpr c35
    have H':=aq H
    clear H
    go_wp2
    go_meet
    case rel => exact ⟨_,((a0 == 31)),eS,H',⟨by have:=HJ2.out;have:=HJ5.out;have:=HJ13.out;have:=HJ17.out;have:=HJ21.out;have:=HJ28.out;first|omega|exact Nat.le_refl _⟩,dR⟩
  rw [if_pos c35] at H
  have c35b0 : (a0 == 27) = true:=beq_iff_eq.mpr c35
  have c35b1 : (a0 != 27) = false:=bne_eq_false_iff_eq.mpr c35
  clear c35
  have H':=aq H
  clear H
  go_wp2
  go_meet
  case rel => exact ⟨_,((a0 == 27)),eS,H',⟨by have:=HJ2.out;have:=HJ5.out;have:=HJ13.out;have:=HJ17.out;have:=HJ21.out;have:=HJ28.out;first|omega|exact Nat.le_refl _⟩,dR⟩
 case rest =>
 clear HC33
 (try clear c2);(try clear c2b0);(try clear c2b1);(try clear c5);(try clear c11);(try clear c12);(try clear c12b0);(try clear c12b1);(try clear c13);(try clear c13b0);(try clear c13b1);(try clear c16);(try clear c17);(try clear c17b0);(try clear c17b1);(try clear c21);(try clear c24);(try clear c25);(try clear c25b0);(try clear c25b1);(try clear c26);(try clear c26b0);(try clear c26b1);(try clear c27);(try clear c27b0);(try clear c27b1);(try clear c28);(try clear c28b0);(try clear c28b1);(try clear c32)
 obtain ⟨kq,x43_32,rfl,HA,HJ32,⟨mc32,rfl⟩⟩:=hcut
 cases kq with
 | zero => exact absurd HA.out (by simp [sr07_Shape.j6])
 | succ kj32 =>
 have H:=HA.out
 clear HA
 simp only [sr07_Shape.j6] at H
 by_cases c36 : x43_32 = true
 · subst c36
   have H1 : (some (⟨#[98]⟩ : ByteArray)) = some r:=by rw [if_pos rfl] at H;exact H
   clear H
   have H:=H1
   clear H1
   obtain rfl:=Option.some.inj H
   go_wp2
   go_ret
   exact ⟨eS,dR⟩
 replace c36:=Bool.eq_false_iff.mpr c36
 subst c36
 have H1 : (if a0 = 30 then (some (⟨#[107]⟩ : ByteArray)) else (if a0 = 32 then (some (⟨#[67]⟩ : ByteArray)) else (some (⟨#[]⟩ : ByteArray)))) = some r:=by rw [if_neg (show ¬ (false = true) by decide)] at H;exact H
 clear H
 have H:=H1
 clear H1
 by_cases c37 : a0 = 30
 · rw [if_pos c37] at H
   have c37b0 : (a0 == 30) = true:=beq_iff_eq.mpr c37
   have c37b1 : (a0 != 30) = false:=bne_eq_false_iff_eq.mpr c37
   clear c37
   obtain rfl:=Option.some.inj H
   go_wp2
   go_ret
   exact ⟨eS,dR⟩
 rw [if_neg c37] at H
 have c37b0 : (a0 == 30) = false:=beq_eq_false_iff_ne.mpr c37
 have c37b1 : (a0 != 30) = true:=bne_iff_ne.mpr c37
 by_cases c38 : a0 = 32
 rotate_left
 · rw [if_neg c38] at H
   have c38b0 : (a0 == 32) = false:=beq_eq_false_iff_ne.mpr c38
   have c38b1 : (a0 != 32) = true:=bne_iff_ne.mpr c38
   obtain rfl:=Option.some.inj H
   go_wp2
   go_ret
   exact ⟨eS,dR⟩
 rw [if_pos c38] at H
 have c38b0 : (a0 == 32) = true:=beq_iff_eq.mpr c38
 have c38b1 : (a0 != 32) = false:=bne_eq_false_iff_eq.mpr c38
 clear c38
 obtain rfl:=Option.some.inj H
 go_wp2
 go_ret
 exact ⟨eS,dR⟩
def sr07_IsCall.f (a0 : Int) : Option (Bool) := if a0 = 19 then (some true) else (if a0 = 20 then (some true) else (some (a0 == 21)))
theorem sr07_IsCall.calls (a0 : Int) (r : Bool) (w : World) (h : sr07_IsCall.f a0 = some r) :
    Calls Try.prog 76 #[.int .i64 a0] w fun e w' => e = .returned (.bool r) ∧ Drawn0 w w':=by
 have H : (if a0 = 19 then (some true) else (if a0 = 20 then (some true) else (some (a0 == 21)))) = some r:=h
 clear h
 by_cases c2 : a0 = 19
 · rw [if_pos c2] at H
   have c2b0 : (a0 == 19) = true:=beq_iff_eq.mpr c2
   have c2b1 : (a0 != 19) = false:=bne_eq_false_iff_eq.mpr c2
   clear c2
   obtain rfl:=Option.some.inj H
   go_enter Try.func76,Try.ntmps76
   go_wp2
   go_ret
   exact ⟨eS,dR⟩
 rw [if_neg c2] at H
 have c2b0 : (a0 == 19) = false:=beq_eq_false_iff_ne.mpr c2
 have c2b1 : (a0 != 19) = true:=bne_iff_ne.mpr c2
 by_cases c3 : a0 = 20
 rotate_left
 · rw [if_neg c3] at H
   have c3b0 : (a0 == 20) = false:=beq_eq_false_iff_ne.mpr c3
   have c3b1 : (a0 != 20) = true:=bne_iff_ne.mpr c3
   obtain rfl:=Option.some.inj H
   go_enter Try.func76,Try.ntmps76
   go_wp2
   go_ret
   exact ⟨eS,dR⟩
 rw [if_pos c3] at H
 have c3b0 : (a0 == 20) = true:=beq_iff_eq.mpr c3
 have c3b1 : (a0 != 20) = false:=bne_eq_false_iff_eq.mpr c3
 clear c3
 obtain rfl:=Option.some.inj H
 go_enter Try.func76,Try.ntmps76
 go_wp2
 go_ret
 exact ⟨eS,dR⟩
def sr07_Sets.j0 : Nat → Bool → Int → Int → Int → Int → Int → ByteArray → ByteArray → ByteArray → List Int → Option (Int × Bool)
  | 0,_,_,_,_,_,_,_,_,_,_ => none
  | k + 1,x16,x102000,x102001,x102002,x102003,x102004,x102005,x102006,x102007,x102008 => if x16 = true then (some (0,false)) else ((sr07_IsCall.f x102000).bind fun t104 => (if t104 = true then ((sr06_Split.f x102007).bind fun bt105 => (if bt105.2.2.2 = 0 then (if bt105.2.1 = 1 then (some (0,false)) else (some (x102001,true))) else (some (0,false)))) else (some (x102001,true))))
def sr07_Sets.f (k : Nat) (a0_0 : Int) (a0_1 : Int) (a0_2 : Int) (a0_3 : Int) (a0_4 : Int) (a0_5 : ByteArray) (a0_6 : ByteArray) (a0_7 : ByteArray) (l0_8 : List Int) : Option (Int × Bool) := (sr07_Shape.f k a0_0).bind fun t102 => ((sr07_Has.f k t102 97).bind fun t103 => (if t103 = true then (sr07_Sets.j0 k (a0_0 == 14) a0_0 a0_1 a0_2 a0_3 a0_4 a0_5 a0_6 a0_7 l0_8) else (sr07_Sets.j0 k true a0_0 a0_1 a0_2 a0_3 a0_4 a0_5 a0_6 a0_7 l0_8)))
theorem sr07_Sets.calls (k : Nat) (a0_0 : Int) (a0_1 : Int) (a0_2 : Int) (a0_3 : Int) (a0_4 : Int) (a0_5 : ByteArray) (a0_6 : ByteArray) (a0_7 : ByteArray) (A0_8 : Option Addr) (c0_8 : Nat) (l0_8 : List Int) (r1 : Int) (r2 : Bool) (w : World) (hr0_8 : Kd.C (Kd.int .i64) w A0_8 l0_8.length l0_8) (hc0_8 : l0_8.length ≤ c0_8) (h : sr07_Sets.f k a0_0 a0_1 a0_2 a0_3 a0_4 a0_5 a0_6 a0_7 l0_8 = some (r1, r2)) :
    Calls Try.prog 47 #[.agg #[.int .i64 a0_0,.int .i64 a0_1,.int .i64 a0_2,.int .i64 a0_3,.int .i64 a0_4,.string a0_5,.string a0_6,.string a0_7,.slice A0_8 l0_8.length c0_8]] w fun e w' => e = .returned (.tuple #[.int .i64 r1,.bool r2]) ∧ Below w.heap.size w w':=by
 have hu74:=Try.underlying74
 have hu97:=Try.underlying97
 have HR0_8:=aq hr0_8
 have HC0_8:=aq hc0_8
 clear hr0_8 hc0_8
 have HB:=aq (Below.refl w.heap.size w)
 have H : ((sr07_Shape.f k a0_0).bind fun t102 => ((sr07_Has.f k t102 97).bind fun t103 => (if t103 = true then (sr07_Sets.j0 k (a0_0 == 14) a0_0 a0_1 a0_2 a0_3 a0_4 a0_5 a0_6 a0_7 l0_8) else (sr07_Sets.j0 k true a0_0 a0_1 a0_2 a0_3 a0_4 a0_5 a0_6 a0_7 l0_8)))) = some (r1,r2):=h
 clear h
 have HC2:=aq H
 clear H
 go_enter Try.func47,Try.ntmps47
 go_upto_region 1 with (first|((with_reducible refine gate_dst (N:=1) rfl ?_);refine box_event rfl (N:=1) rfl (cs:=#[.int .i64 a0_0,.int .i64 a0_1,.int .i64 a0_2,.int .i64 a0_3,.int .i64 a0_4,.string a0_5,.string a0_6,.string a0_7,.slice A0_8 l0_8.length c0_8]) (t:=74) gS ?_;intro gb101 hg w3 hbox hb;have BK101:=aq (hbox);have GE101:=aq ((GN hg : w.heap.size ≤ gb101));replace HB:=aq (below_step bH hb);clear hb hbox hg))
 (try simp only [Act.put,List.setIfInBounds_toArray,List.set_cons_zero,List.set_cons_succ])
 go_cut [16] (fun v16 wc => ∃ (kq : Nat) (x16_1 : Bool),v16 = .bool x16_1 ∧ Aside0 (sr07_Sets.j0 kq x16_1 a0_0 a0_1 a0_2 a0_3 a0_4 a0_5 a0_6 a0_7 l0_8 = some (r1,r2)) ∧ Aside0 (kq ≤ k) ∧ Aside0 (wc.heap[gb101]? = some (.cells #[.int .i64 a0_0,.int .i64 a0_1,.int .i64 a0_2,.int .i64 a0_3,.int .i64 a0_4,.string a0_5,.string a0_6,.string a0_7,(.slice A0_8 l0_8.length c0_8)] 74 (0,0))) ∧ Aside0 (Below w.heap.size w wc))
 case first =>
  have H:=HC2.out
  clear HC2
  replace H:=Option.bind_eq_some_iff.mp H
  obtain ⟨t102,A40,H⟩:=H
  have A4:=aq A40
  clear A40
  replace H:=Option.bind_eq_some_iff.mp H
  obtain ⟨t103,A50,H⟩:=H
  have A5:=aq A50
  clear A50
  by_cases c6 : t103 = true
  · subst c6
    have H1 : (sr07_Sets.j0 k (a0_0 == 14) a0_0 a0_1 a0_2 a0_3 a0_4 a0_5 a0_6 a0_7 l0_8) = some (r1,r2):=by rw [if_pos rfl] at H;exact H
    clear H
    have H:=H1
    clear H1
    have H':=aq H
    clear H
    have hcz7_0 : w3.cell? ⟨gb101,0,none⟩ = some (.int .i64 a0_0):=(blk_cell BK101.out 0).trans rfl
    have hcz7_1 : w3.cell? ⟨gb101,1,none⟩ = some (.int .i64 a0_1):=(blk_cell BK101.out 1).trans rfl
    have hcz7_2 : w3.cell? ⟨gb101,2,none⟩ = some (.int .i64 a0_2):=(blk_cell BK101.out 2).trans rfl
    have hcz7_3 : w3.cell? ⟨gb101,3,none⟩ = some (.int .i64 a0_3):=(blk_cell BK101.out 3).trans rfl
    have hcz7_4 : w3.cell? ⟨gb101,4,none⟩ = some (.int .i64 a0_4):=(blk_cell BK101.out 4).trans rfl
    have hcz7_5 : w3.cell? ⟨gb101,5,none⟩ = some (.string a0_5):=(blk_cell BK101.out 5).trans rfl
    have hcz7_6 : w3.cell? ⟨gb101,6,none⟩ = some (.string a0_6):=(blk_cell BK101.out 6).trans rfl
    have hcz7_7 : w3.cell? ⟨gb101,7,none⟩ = some (.string a0_7):=(blk_cell BK101.out 7).trans rfl
    have hcz7_8 : w3.cell? ⟨gb101,8,none⟩ = some (.slice A0_8 l0_8.length c0_8):=(blk_cell BK101.out 8).trans rfl
    have hfz7_0:=blk_frozen BK101.out 0
    have hfz7_1:=blk_frozen BK101.out 1
    have hfz7_2:=blk_frozen BK101.out 2
    have hfz7_3:=blk_frozen BK101.out 3
    have hfz7_4:=blk_frozen BK101.out 4
    have hfz7_5:=blk_frozen BK101.out 5
    have hfz7_6:=blk_frozen BK101.out 6
    have hfz7_7:=blk_frozen BK101.out 7
    have hfz7_8:=blk_frozen BK101.out 8
    go_wp2_with (first|((with_reducible refine gate_callee (f:=75) rfl ?_);refine goesL_ (some 9) rfl rfl Try.func75 (by kernel_rfl) rfl #[.int .i64 a0_0] rfl eA ?_;(with_reducible refine (sr07_Shape.calls k a0_0 t102 _ A4.out).mono ?_);rintro e w' ⟨rfl,⟨nd,rfl⟩⟩;refine ⟨_,rfl,?_⟩)|((with_reducible refine gate_callee (f:=74) rfl ?_);refine goesL_ (some 10) rfl rfl Try.func74 (by kernel_rfl) rfl #[.string t102,.int .u8 97] rfl eA ?_;(with_reducible refine (sr07_Has.calls k t102 97 true _ A5.out).mono ?_);rintro e w' ⟨rfl,⟨nd,rfl⟩⟩;refine ⟨_,rfl,?_⟩))
    go_meet
    case rel => exact ⟨_,((a0_0 == 14)),eS,H',⟨by first|omega|exact Nat.le_refl _⟩,⟨KU BK101.out⟩,⟨bH⟩⟩
  replace c6:=Bool.eq_false_iff.mpr c6
  subst c6
  have H1 : (sr07_Sets.j0 k true a0_0 a0_1 a0_2 a0_3 a0_4 a0_5 a0_6 a0_7 l0_8) = some (r1,r2):=by rw [if_neg (show ¬ (false = true) by decide)] at H;exact H
  clear H
  have H:=H1
  clear H1
  have H':=aq H
  clear H
  have hcz8_0 : w3.cell? ⟨gb101,0,none⟩ = some (.int .i64 a0_0):=(blk_cell BK101.out 0).trans rfl
  have hcz8_1 : w3.cell? ⟨gb101,1,none⟩ = some (.int .i64 a0_1):=(blk_cell BK101.out 1).trans rfl
  have hcz8_2 : w3.cell? ⟨gb101,2,none⟩ = some (.int .i64 a0_2):=(blk_cell BK101.out 2).trans rfl
  have hcz8_3 : w3.cell? ⟨gb101,3,none⟩ = some (.int .i64 a0_3):=(blk_cell BK101.out 3).trans rfl
  have hcz8_4 : w3.cell? ⟨gb101,4,none⟩ = some (.int .i64 a0_4):=(blk_cell BK101.out 4).trans rfl
  have hcz8_5 : w3.cell? ⟨gb101,5,none⟩ = some (.string a0_5):=(blk_cell BK101.out 5).trans rfl
  have hcz8_6 : w3.cell? ⟨gb101,6,none⟩ = some (.string a0_6):=(blk_cell BK101.out 6).trans rfl
  have hcz8_7 : w3.cell? ⟨gb101,7,none⟩ = some (.string a0_7):=(blk_cell BK101.out 7).trans rfl
  have hcz8_8 : w3.cell? ⟨gb101,8,none⟩ = some (.slice A0_8 l0_8.length c0_8):=(blk_cell BK101.out 8).trans rfl
  have hfz8_0:=blk_frozen BK101.out 0
  have hfz8_1:=blk_frozen BK101.out 1
  have hfz8_2:=blk_frozen BK101.out 2
  have hfz8_3:=blk_frozen BK101.out 3
  have hfz8_4:=blk_frozen BK101.out 4
  have hfz8_5:=blk_frozen BK101.out 5
  have hfz8_6:=blk_frozen BK101.out 6
  have hfz8_7:=blk_frozen BK101.out 7
  have hfz8_8:=blk_frozen BK101.out 8
  go_wp2_with (first|((with_reducible refine gate_callee (f:=75) rfl ?_);refine goesL_ (some 9) rfl rfl Try.func75 (by kernel_rfl) rfl #[.int .i64 a0_0] rfl eA ?_;(with_reducible refine (sr07_Shape.calls k a0_0 t102 _ A4.out).mono ?_);rintro e w' ⟨rfl,⟨nd,rfl⟩⟩;refine ⟨_,rfl,?_⟩)|((with_reducible refine gate_callee (f:=74) rfl ?_);refine goesL_ (some 10) rfl rfl Try.func74 (by kernel_rfl) rfl #[.string t102,.int .u8 97] rfl eA ?_;(with_reducible refine (sr07_Has.calls k t102 97 false _ A5.out).mono ?_);rintro e w' ⟨rfl,⟨nd,rfl⟩⟩;refine ⟨_,rfl,?_⟩))
  go_meet
  case rel => exact ⟨_,(true),eS,H',⟨by first|omega|exact Nat.le_refl _⟩,⟨KU BK101.out⟩,⟨bH⟩⟩
 case rest =>
 clear HC2
 obtain ⟨kq,x16_1,rfl,HA,HJ1,BK101,HB⟩:=hcut
 cases kq with
 | zero => exact absurd HA.out (by simp [sr07_Sets.j0])
 | succ kj1 =>
 have H:=HA.out
 clear HA
 simp only [sr07_Sets.j0] at H
 by_cases c9 : x16_1 = true
 · subst c9
   have H1 : (some (0,false)) = some (r1,r2):=by rw [if_pos rfl] at H;exact H
   clear H
   have H:=H1
   clear H1
   simp only [Option.some.injEq,Prod.mk.injEq] at H
   obtain ⟨rfl,rfl⟩:=H
   go_wp2
   go_ret2
   exact ⟨eR,bH⟩
 replace c9:=Bool.eq_false_iff.mpr c9
 subst c9
 have H1 : ((sr07_IsCall.f a0_0).bind fun t104 => (if t104 = true then ((sr06_Split.f a0_7).bind fun bt105 => (if bt105.2.2.2 = 0 then (if bt105.2.1 = 1 then (some (0,false)) else (some (a0_1,true))) else (some (0,false)))) else (some (a0_1,true)))) = some (r1,r2):=by rw [if_neg (show ¬ (false = true) by decide)] at H;exact H
 clear H
 have H:=H1
 clear H1
 replace H:=Option.bind_eq_some_iff.mp H
 obtain ⟨t104,A100,H⟩:=H
 have A10:=aq A100
 clear A100
 by_cases c11 : t104 = true
 rotate_left
 · replace c11:=Bool.eq_false_iff.mpr c11
   subst c11
   have H1 : (some (a0_1,true)) = some (r1,r2):=by rw [if_neg (show ¬ (false = true) by decide)] at H;exact H
   clear H
   have H:=H1
   clear H1
   simp only [Option.some.injEq,Prod.mk.injEq] at H
   obtain ⟨rfl,rfl⟩:=H
   have hcz31_0 : wc.cell? ⟨gb101,0,none⟩ = some (.int .i64 a0_0):=(blk_cell BK101.out 0).trans rfl
   have hcz31_1 : wc.cell? ⟨gb101,1,none⟩ = some (.int .i64 a0_1):=(blk_cell BK101.out 1).trans rfl
   have hcz31_2 : wc.cell? ⟨gb101,2,none⟩ = some (.int .i64 a0_2):=(blk_cell BK101.out 2).trans rfl
   have hcz31_3 : wc.cell? ⟨gb101,3,none⟩ = some (.int .i64 a0_3):=(blk_cell BK101.out 3).trans rfl
   have hcz31_4 : wc.cell? ⟨gb101,4,none⟩ = some (.int .i64 a0_4):=(blk_cell BK101.out 4).trans rfl
   have hcz31_5 : wc.cell? ⟨gb101,5,none⟩ = some (.string a0_5):=(blk_cell BK101.out 5).trans rfl
   have hcz31_6 : wc.cell? ⟨gb101,6,none⟩ = some (.string a0_6):=(blk_cell BK101.out 6).trans rfl
   have hcz31_7 : wc.cell? ⟨gb101,7,none⟩ = some (.string a0_7):=(blk_cell BK101.out 7).trans rfl
   have hcz31_8 : wc.cell? ⟨gb101,8,none⟩ = some (.slice A0_8 l0_8.length c0_8):=(blk_cell BK101.out 8).trans rfl
   have hfz31_0:=blk_frozen BK101.out 0
   have hfz31_1:=blk_frozen BK101.out 1
   have hfz31_2:=blk_frozen BK101.out 2
   have hfz31_3:=blk_frozen BK101.out 3
   have hfz31_4:=blk_frozen BK101.out 4
   have hfz31_5:=blk_frozen BK101.out 5
   have hfz31_6:=blk_frozen BK101.out 6
   have hfz31_7:=blk_frozen BK101.out 7
   have hfz31_8:=blk_frozen BK101.out 8
   go_wp2_with (first|((with_reducible refine gate_callee (f:=76) rfl ?_);refine goesL_ (some 19) rfl rfl Try.func76 (by kernel_rfl) rfl #[.int .i64 a0_0] rfl eA ?_;(with_reducible refine (sr07_IsCall.calls a0_0 false _ A10.out).mono ?_);rintro e w' ⟨rfl,⟨nd,rfl⟩⟩;refine ⟨_,rfl,?_⟩))
   go_ret2
   exact ⟨eR,bH⟩
 subst c11
 have H1 : ((sr06_Split.f a0_7).bind fun bt105 => (if bt105.2.2.2 = 0 then (if bt105.2.1 = 1 then (some (0,false)) else (some (a0_1,true))) else (some (0,false)))) = some (r1,r2):=by rw [if_pos rfl] at H;exact H
 clear H
 have H:=H1
 clear H1
 replace H:=Option.bind_eq_some_iff.mp H
 obtain ⟨⟨t105,t108,t109,t110⟩,A120,H⟩:=H
 replace H : (if t110 = 0 then (if t108 = 1 then (some (0,false)) else (some (a0_1,true))) else (some (0,false))) = some (r1,r2):=H
 have A12:=aq A120
 clear A120
 by_cases c13 : t110 = 0
 rotate_left
 · rw [if_neg c13] at H
   have c13b0 : (t110 == 0) = false:=beq_eq_false_iff_ne.mpr c13
   have c13b1 : (t110 != 0) = true:=bne_iff_ne.mpr c13
   simp only [Option.some.injEq,Prod.mk.injEq] at H
   obtain ⟨rfl,rfl⟩:=H
   have hcz26_0 : wc.cell? ⟨gb101,0,none⟩ = some (.int .i64 a0_0):=(blk_cell BK101.out 0).trans rfl
   have hcz26_1 : wc.cell? ⟨gb101,1,none⟩ = some (.int .i64 a0_1):=(blk_cell BK101.out 1).trans rfl
   have hcz26_2 : wc.cell? ⟨gb101,2,none⟩ = some (.int .i64 a0_2):=(blk_cell BK101.out 2).trans rfl
   have hcz26_3 : wc.cell? ⟨gb101,3,none⟩ = some (.int .i64 a0_3):=(blk_cell BK101.out 3).trans rfl
   have hcz26_4 : wc.cell? ⟨gb101,4,none⟩ = some (.int .i64 a0_4):=(blk_cell BK101.out 4).trans rfl
   have hcz26_5 : wc.cell? ⟨gb101,5,none⟩ = some (.string a0_5):=(blk_cell BK101.out 5).trans rfl
   have hcz26_6 : wc.cell? ⟨gb101,6,none⟩ = some (.string a0_6):=(blk_cell BK101.out 6).trans rfl
   have hcz26_7 : wc.cell? ⟨gb101,7,none⟩ = some (.string a0_7):=(blk_cell BK101.out 7).trans rfl
   have hcz26_8 : wc.cell? ⟨gb101,8,none⟩ = some (.slice A0_8 l0_8.length c0_8):=(blk_cell BK101.out 8).trans rfl
   have hfz26_0:=blk_frozen BK101.out 0
   have hfz26_1:=blk_frozen BK101.out 1
   have hfz26_2:=blk_frozen BK101.out 2
   have hfz26_3:=blk_frozen BK101.out 3
   have hfz26_4:=blk_frozen BK101.out 4
   have hfz26_5:=blk_frozen BK101.out 5
   have hfz26_6:=blk_frozen BK101.out 6
   have hfz26_7:=blk_frozen BK101.out 7
   have hfz26_8:=blk_frozen BK101.out 8
   go_wp2_with (first|((with_reducible refine gate_callee (f:=76) rfl ?_);refine goesL_ (some 19) rfl rfl Try.func76 (by kernel_rfl) rfl #[.int .i64 a0_0] rfl eA ?_;(with_reducible refine (sr07_IsCall.calls a0_0 true _ A10.out).mono ?_);rintro e w' ⟨rfl,⟨nd,rfl⟩⟩;refine ⟨_,rfl,?_⟩;(try (rw [drewN_self wc];generalize hq_ : World.drewN wc _ = wc;have n0_ : Aside0 (wc.heap[gb101]? = some (.cells #[.int .i64 a0_0,.int .i64 a0_1,.int .i64 a0_2,.int .i64 a0_3,.int .i64 a0_4,.string a0_5,.string a0_6,.string a0_7,.slice A0_8 l0_8.length c0_8] 74 (0,0))):=⟨by rw [← hq_];exact (KU BK101.out)⟩;have n1_ : Aside0 (Below w.heap.size w wc):=⟨by rw [← hq_];exact bH⟩;clear BK101 HB hq_;have BK101:=n0_;have HB:=n1_;clear n0_ n1_;have xBK101_0:=blk_cell BK101.out 0;have xBK101_1:=blk_cell BK101.out 1;have xBK101_2:=blk_cell BK101.out 2;have xBK101_3:=blk_cell BK101.out 3;have xBK101_4:=blk_cell BK101.out 4;have xBK101_5:=blk_cell BK101.out 5;have xBK101_6:=blk_cell BK101.out 6;have xBK101_7:=blk_cell BK101.out 7;have xBK101_8:=blk_cell BK101.out 8)))|((with_reducible refine gate_callee (f:=48) rfl ?_);refine goesL_ (some 23) rfl rfl Try.func48 (by kernel_rfl) rfl #[.string a0_7] rfl eA ?_;(with_reducible refine (sr06_Split.calls a0_7 t105 t108 t109 t110 _ A12.out).mono ?_);rintro e w27 ⟨v106,rfl,ho0,hb⟩;refine ⟨_,rfl,?_⟩;have HO107:=aq (Kd.R_lower ho0 (below_size bH));replace BK101:=KN BK101 hb;replace HB:=aq (below_step bH hb);(try clear hb);(try clear hb2);(try clear hk);(try clear hi);(try clear ho0))|((with_reducible refine gate_dst (N:=5) rfl ?_);refine box_event rfl (N:=5) rfl (cs:=#[.int .i64 0,.string (⟨#[]⟩ : ByteArray)]) (t:=97) gS ?_;intro gb111 hg w28 hbox hb;have BK111:=aq (hbox);have GE111:=aq ((GN hg : w.heap.size ≤ gb111));have NB101_111:=aq (NL hg BK101);have NB111_101:=aq (NG hg BK101);replace HO107:=aq (Kd.R_below (Kd.R_elderB (RU HO107.out) gb111 (Nat.le_of_eq hg.symm)) hb);replace BK101:=KN BK101 hb;replace HB:=aq (below_step bH hb);clear hb hbox hg;have hnb29:=NB111_101.out;have hnc29:=NB101_111.out;have hcz30_0 : w28.cell? ⟨gb111,0,none⟩ = some (.int .i64 0):=(blk_cell BK111.out 0).trans rfl;have hcz30_1 : w28.cell? ⟨gb111,1,none⟩ = some (.string (⟨#[]⟩ : ByteArray)):=(blk_cell BK111.out 1).trans rfl;have hfz30_0:=blk_frozen BK111.out 0;have hfz30_1:=blk_frozen BK111.out 1))
   go_ret2
   exact ⟨eR,bH⟩
 rw [if_pos c13] at H
 have c13b0 : (t110 == 0) = true:=beq_iff_eq.mpr c13
 have c13b1 : (t110 != 0) = false:=bne_eq_false_iff_eq.mpr c13
 clear c13
 by_cases c14 : t108 = 1
 · rw [if_pos c14] at H
   have c14b0 : (t108 == 1) = true:=beq_iff_eq.mpr c14
   have c14b1 : (t108 != 1) = false:=bne_eq_false_iff_eq.mpr c14
   clear c14
   simp only [Option.some.injEq,Prod.mk.injEq] at H
   obtain ⟨rfl,rfl⟩:=H
   have hcz15_0 : wc.cell? ⟨gb101,0,none⟩ = some (.int .i64 a0_0):=(blk_cell BK101.out 0).trans rfl
   have hcz15_1 : wc.cell? ⟨gb101,1,none⟩ = some (.int .i64 a0_1):=(blk_cell BK101.out 1).trans rfl
   have hcz15_2 : wc.cell? ⟨gb101,2,none⟩ = some (.int .i64 a0_2):=(blk_cell BK101.out 2).trans rfl
   have hcz15_3 : wc.cell? ⟨gb101,3,none⟩ = some (.int .i64 a0_3):=(blk_cell BK101.out 3).trans rfl
   have hcz15_4 : wc.cell? ⟨gb101,4,none⟩ = some (.int .i64 a0_4):=(blk_cell BK101.out 4).trans rfl
   have hcz15_5 : wc.cell? ⟨gb101,5,none⟩ = some (.string a0_5):=(blk_cell BK101.out 5).trans rfl
   have hcz15_6 : wc.cell? ⟨gb101,6,none⟩ = some (.string a0_6):=(blk_cell BK101.out 6).trans rfl
   have hcz15_7 : wc.cell? ⟨gb101,7,none⟩ = some (.string a0_7):=(blk_cell BK101.out 7).trans rfl
   have hcz15_8 : wc.cell? ⟨gb101,8,none⟩ = some (.slice A0_8 l0_8.length c0_8):=(blk_cell BK101.out 8).trans rfl
   have hfz15_0:=blk_frozen BK101.out 0
   have hfz15_1:=blk_frozen BK101.out 1
   have hfz15_2:=blk_frozen BK101.out 2
   have hfz15_3:=blk_frozen BK101.out 3
   have hfz15_4:=blk_frozen BK101.out 4
   have hfz15_5:=blk_frozen BK101.out 5
   have hfz15_6:=blk_frozen BK101.out 6
   have hfz15_7:=blk_frozen BK101.out 7
   have hfz15_8:=blk_frozen BK101.out 8
   go_wp2_with (first|((with_reducible refine gate_callee (f:=76) rfl ?_);refine goesL_ (some 19) rfl rfl Try.func76 (by kernel_rfl) rfl #[.int .i64 a0_0] rfl eA ?_;(with_reducible refine (sr07_IsCall.calls a0_0 true _ A10.out).mono ?_);rintro e w' ⟨rfl,⟨nd,rfl⟩⟩;refine ⟨_,rfl,?_⟩;(try (rw [drewN_self wc];generalize hq_ : World.drewN wc _ = wc;have n0_ : Aside0 (wc.heap[gb101]? = some (.cells #[.int .i64 a0_0,.int .i64 a0_1,.int .i64 a0_2,.int .i64 a0_3,.int .i64 a0_4,.string a0_5,.string a0_6,.string a0_7,.slice A0_8 l0_8.length c0_8] 74 (0,0))):=⟨by rw [← hq_];exact (KU BK101.out)⟩;have n1_ : Aside0 (Below w.heap.size w wc):=⟨by rw [← hq_];exact bH⟩;clear BK101 HB hq_;have BK101:=n0_;have HB:=n1_;clear n0_ n1_;have xBK101_0:=blk_cell BK101.out 0;have xBK101_1:=blk_cell BK101.out 1;have xBK101_2:=blk_cell BK101.out 2;have xBK101_3:=blk_cell BK101.out 3;have xBK101_4:=blk_cell BK101.out 4;have xBK101_5:=blk_cell BK101.out 5;have xBK101_6:=blk_cell BK101.out 6;have xBK101_7:=blk_cell BK101.out 7;have xBK101_8:=blk_cell BK101.out 8)))|((with_reducible refine gate_callee (f:=48) rfl ?_);refine goesL_ (some 23) rfl rfl Try.func48 (by kernel_rfl) rfl #[.string a0_7] rfl eA ?_;(with_reducible refine (sr06_Split.calls a0_7 t105 t108 t109 t110 _ A12.out).mono ?_);rintro e w16 ⟨v106,rfl,ho0,hb⟩;refine ⟨_,rfl,?_⟩;have HO107:=aq (Kd.R_lower ho0 (below_size bH));replace BK101:=KN BK101 hb;replace HB:=aq (below_step bH hb);(try clear hb);(try clear hb2);(try clear hk);(try clear hi);(try clear ho0))|((with_reducible refine gate_dst (N:=5) rfl ?_);refine box_event rfl (N:=5) rfl (cs:=#[.int .i64 0,.string (⟨#[]⟩ : ByteArray)]) (t:=97) gS ?_;intro gb111 hg w17 hbox hb;have BK111:=aq (hbox);have GE111:=aq ((GN hg : w.heap.size ≤ gb111));have NB101_111:=aq (NL hg BK101);have NB111_101:=aq (NG hg BK101);replace HO107:=aq (Kd.R_below (Kd.R_elderB (RU HO107.out) gb111 (Nat.le_of_eq hg.symm)) hb);replace BK101:=KN BK101 hb;replace HB:=aq (below_step bH hb);clear hb hbox hg;have hnb18:=NB111_101.out;have hnc18:=NB101_111.out;have hcz19_0 : w17.cell? ⟨gb111,0,none⟩ = some (.int .i64 0):=(blk_cell BK111.out 0).trans rfl;have hcz19_1 : w17.cell? ⟨gb111,1,none⟩ = some (.string (⟨#[]⟩ : ByteArray)):=(blk_cell BK111.out 1).trans rfl;have hfz19_0:=blk_frozen BK111.out 0;have hfz19_1:=blk_frozen BK111.out 1))
   go_ret2
   exact ⟨eR,bH⟩
 rw [if_neg c14] at H
 have c14b0 : (t108 == 1) = false:=beq_eq_false_iff_ne.mpr c14
 have c14b1 : (t108 != 1) = true:=bne_iff_ne.mpr c14
 simp only [Option.some.injEq,Prod.mk.injEq] at H
 obtain ⟨rfl,rfl⟩:=H
 have hcz20_0 : wc.cell? ⟨gb101,0,none⟩ = some (.int .i64 a0_0):=(blk_cell BK101.out 0).trans rfl
 have hcz20_1 : wc.cell? ⟨gb101,1,none⟩ = some (.int .i64 a0_1):=(blk_cell BK101.out 1).trans rfl
 have hcz20_2 : wc.cell? ⟨gb101,2,none⟩ = some (.int .i64 a0_2):=(blk_cell BK101.out 2).trans rfl
 have hcz20_3 : wc.cell? ⟨gb101,3,none⟩ = some (.int .i64 a0_3):=(blk_cell BK101.out 3).trans rfl
 have hcz20_4 : wc.cell? ⟨gb101,4,none⟩ = some (.int .i64 a0_4):=(blk_cell BK101.out 4).trans rfl
 have hcz20_5 : wc.cell? ⟨gb101,5,none⟩ = some (.string a0_5):=(blk_cell BK101.out 5).trans rfl
 have hcz20_6 : wc.cell? ⟨gb101,6,none⟩ = some (.string a0_6):=(blk_cell BK101.out 6).trans rfl
 have hcz20_7 : wc.cell? ⟨gb101,7,none⟩ = some (.string a0_7):=(blk_cell BK101.out 7).trans rfl
 have hcz20_8 : wc.cell? ⟨gb101,8,none⟩ = some (.slice A0_8 l0_8.length c0_8):=(blk_cell BK101.out 8).trans rfl
 have hfz20_0:=blk_frozen BK101.out 0
 have hfz20_1:=blk_frozen BK101.out 1
 have hfz20_2:=blk_frozen BK101.out 2
 have hfz20_3:=blk_frozen BK101.out 3
 have hfz20_4:=blk_frozen BK101.out 4
 have hfz20_5:=blk_frozen BK101.out 5
 have hfz20_6:=blk_frozen BK101.out 6
 have hfz20_7:=blk_frozen BK101.out 7
 have hfz20_8:=blk_frozen BK101.out 8
 go_wp2_with (first|((with_reducible refine gate_callee (f:=76) rfl ?_);refine goesL_ (some 19) rfl rfl Try.func76 (by kernel_rfl) rfl #[.int .i64 a0_0] rfl eA ?_;(with_reducible refine (sr07_IsCall.calls a0_0 true _ A10.out).mono ?_);rintro e w' ⟨rfl,⟨nd,rfl⟩⟩;refine ⟨_,rfl,?_⟩;(try (rw [drewN_self wc];generalize hq_ : World.drewN wc _ = wc;have n0_ : Aside0 (wc.heap[gb101]? = some (.cells #[.int .i64 a0_0,.int .i64 a0_1,.int .i64 a0_2,.int .i64 a0_3,.int .i64 a0_4,.string a0_5,.string a0_6,.string a0_7,.slice A0_8 l0_8.length c0_8] 74 (0,0))):=⟨by rw [← hq_];exact (KU BK101.out)⟩;have n1_ : Aside0 (Below w.heap.size w wc):=⟨by rw [← hq_];exact bH⟩;clear BK101 HB hq_;have BK101:=n0_;have HB:=n1_;clear n0_ n1_;have xBK101_0:=blk_cell BK101.out 0;have xBK101_1:=blk_cell BK101.out 1;have xBK101_2:=blk_cell BK101.out 2;have xBK101_3:=blk_cell BK101.out 3;have xBK101_4:=blk_cell BK101.out 4;have xBK101_5:=blk_cell BK101.out 5;have xBK101_6:=blk_cell BK101.out 6;have xBK101_7:=blk_cell BK101.out 7;have xBK101_8:=blk_cell BK101.out 8)))|((with_reducible refine gate_callee (f:=48) rfl ?_);refine goesL_ (some 23) rfl rfl Try.func48 (by kernel_rfl) rfl #[.string a0_7] rfl eA ?_;(with_reducible refine (sr06_Split.calls a0_7 t105 t108 t109 t110 _ A12.out).mono ?_);rintro e w21 ⟨v106,rfl,ho0,hb⟩;refine ⟨_,rfl,?_⟩;have HO107:=aq (Kd.R_lower ho0 (below_size bH));replace BK101:=KN BK101 hb;replace HB:=aq (below_step bH hb);(try clear hb);(try clear hb2);(try clear hk);(try clear hi);(try clear ho0))|((with_reducible refine gate_dst (N:=5) rfl ?_);refine box_event rfl (N:=5) rfl (cs:=#[.int .i64 0,.string (⟨#[]⟩ : ByteArray)]) (t:=97) gS ?_;intro gb111 hg w22 hbox hb;have BK111:=aq (hbox);have GE111:=aq ((GN hg : w.heap.size ≤ gb111));have NB101_111:=aq (NL hg BK101);have NB111_101:=aq (NG hg BK101);replace HO107:=aq (Kd.R_below (Kd.R_elderB (RU HO107.out) gb111 (Nat.le_of_eq hg.symm)) hb);replace BK101:=KN BK101 hb;replace HB:=aq (below_step bH hb);clear hb hbox hg;have hnb23:=NB111_101.out;have hnc23:=NB101_111.out;have hcz24_0 : w22.cell? ⟨gb111,0,none⟩ = some (.int .i64 0):=(blk_cell BK111.out 0).trans rfl;have hcz24_1 : w22.cell? ⟨gb111,1,none⟩ = some (.string (⟨#[]⟩ : ByteArray)):=(blk_cell BK111.out 1).trans rfl;have hfz24_0:=blk_frozen BK111.out 0;have hfz24_1:=blk_frozen BK111.out 1;have hcz25_0 : w22.cell? ⟨gb101,0,none⟩ = some (.int .i64 a0_0):=(blk_cell BK101.out 0).trans rfl;have hcz25_1 : w22.cell? ⟨gb101,1,none⟩ = some (.int .i64 a0_1):=(blk_cell BK101.out 1).trans rfl;have hcz25_2 : w22.cell? ⟨gb101,2,none⟩ = some (.int .i64 a0_2):=(blk_cell BK101.out 2).trans rfl;have hcz25_3 : w22.cell? ⟨gb101,3,none⟩ = some (.int .i64 a0_3):=(blk_cell BK101.out 3).trans rfl;have hcz25_4 : w22.cell? ⟨gb101,4,none⟩ = some (.int .i64 a0_4):=(blk_cell BK101.out 4).trans rfl;have hcz25_5 : w22.cell? ⟨gb101,5,none⟩ = some (.string a0_5):=(blk_cell BK101.out 5).trans rfl;have hcz25_6 : w22.cell? ⟨gb101,6,none⟩ = some (.string a0_6):=(blk_cell BK101.out 6).trans rfl;have hcz25_7 : w22.cell? ⟨gb101,7,none⟩ = some (.string a0_7):=(blk_cell BK101.out 7).trans rfl;have hcz25_8 : w22.cell? ⟨gb101,8,none⟩ = some (.slice A0_8 l0_8.length c0_8):=(blk_cell BK101.out 8).trans rfl;have hfz25_0:=blk_frozen BK101.out 0;have hfz25_1:=blk_frozen BK101.out 1;have hfz25_2:=blk_frozen BK101.out 2;have hfz25_3:=blk_frozen BK101.out 3;have hfz25_4:=blk_frozen BK101.out 4;have hfz25_5:=blk_frozen BK101.out 5;have hfz25_6:=blk_frozen BK101.out 6;have hfz25_7:=blk_frozen BK101.out 7;have hfz25_8:=blk_frozen BK101.out 8))
 go_ret2
 exact ⟨eR,bH⟩
def sr12_Field.l0 : Nat → List ByteArray → Int → List (S33) → List ByteArray → ByteArray → ByteArray → ByteArray → ByteArray → ByteArray → Option (ByteArray × ByteArray × Bool)
  | 0,_,_,_,_,_,_,_,_,_ => none
  | k + 1,x6,x7,x113000,x113001,x113002,x113003,x113004,x114000,x114001 => if x7 < (x6.length : Int) then (if 0 ≤ x7 then ((sr12_FieldOf.f x113000 x113001 x113002 x113003 x113004 (rdOf ByteArray.empty x6 x7) x114001).bind fun bt120 => (if bt120.2.2.2.2 = true then (some (rdOf ByteArray.empty x6 x7,x114001,true)) else (sr12_Field.l0 k x6 (wrap64 (x7 + 1)) x113000 x113001 x113002 x113003 x113004 x114000 x114001))) else (none)) else (some ((⟨#[]⟩ : ByteArray),(⟨#[]⟩ : ByteArray),false))
def sr12_Field.f (k : Nat) (l0_0 : List (S33)) (l0_1 : List ByteArray) (a0_2 : ByteArray) (a0_3 : ByteArray) (a0_4 : ByteArray) (a1_0 : ByteArray) (a1_1 : ByteArray) : Option (ByteArray × ByteArray × Bool) := (sr11_Supers.f l0_0 l0_1 a0_2 a0_3 a0_4 a1_0).bind fun t115 => (sr12_Field.l0 k t115 0 l0_0 l0_1 a0_2 a0_3 a0_4 a1_0 a1_1)
def sr12_Field.T5 : Bool × List (List Nat × List Nat) := (true, [([], []), ([], []), ([0, 1], [0, 1]), ([2], [2]), ([], []), ([4], [4]), ([3, 5], [3, 5]), ([], []), ([7, 6, 0, 1, 2, 3, 4, 5, 6, 7], [6, 7])])
def sr12_Field.B5 : List Nat := [0, 0, 3, 7, 0, 16, 63, 0, 255]
theorem sr12_Field.tab5 : rtab .any (opsOf Try.f49 5) = sr12_Field.T5 := by kernel_rfl
theorem sr12_Field.bits5 : waitsOk sr12_Field.T5.2 sr12_Field.B5 = true := by kernel_rfl
theorem sr12_Field.calls (k : Nat) (A0_0 : Option Addr) (c0_0 : Nat) (l0_0 : List (S33)) (A0_1 : Option Addr) (c0_1 : Nat) (l0_1 : List ByteArray) (a0_2 : ByteArray) (a0_3 : ByteArray) (a0_4 : ByteArray) (a1_0 : ByteArray) (a1_1 : ByteArray) (r1 : ByteArray) (r2 : ByteArray) (r3 : Bool) (w : World) (hr0_0 : Kd.C k33 w A0_0 l0_0.length l0_0) (hc0_0 : l0_0.length ≤ c0_0) (hr0_1 : Kd.C Kd.string w A0_1 l0_1.length l0_1) (hc0_1 : l0_1.length ≤ c0_1) (h : sr12_Field.f k l0_0 l0_1 a0_2 a0_3 a0_4 a1_0 a1_1 = some (r1, r2, r3)) :
    Calls Try.prog 49 #[.agg #[.slice A0_0 l0_0.length c0_0,.slice A0_1 l0_1.length c0_1,.string a0_2,.string a0_3,.string a0_4],.agg #[.string a1_0,.string a1_1]] w fun e w' => e = .returned (.tuple #[.agg #[.string r1,.string r2],.bool r3]) ∧ Below w.heap.size w w':=by
 have hu27:=Try.underlying27
 have hu44:=Try.underlying44
 have hu103:=Try.underlying103
 have HR0_0:=aq hr0_0
 have HC0_0:=aq hc0_0
 clear hr0_0 hc0_0
 have HR0_1:=aq hr0_1
 have HC0_1:=aq hc0_1
 clear hr0_1 hc0_1
 have HB:=aq (Below.refl w.heap.size w)
 have H : ((sr11_Supers.f l0_0 l0_1 a0_2 a0_3 a0_4 a1_0).bind fun t115 => (sr12_Field.l0 k t115 0 l0_0 l0_1 a0_2 a0_3 a0_4 a1_0 a1_1)) = some (r1,r2,r3):=h
 clear h
 replace H:=Option.bind_eq_some_iff.mp H
 obtain ⟨t115,A30,H⟩:=H
 have A3:=aq A30
 clear A30
 have H':=aq H
 clear H
 go_enter Try.func49,Try.ntmps49
 go_wp2_with (first|((with_reducible refine gate_dst (N:=2) rfl ?_);refine box_event rfl (N:=2) rfl (cs:=#[.slice A0_0 l0_0.length c0_0,.slice A0_1 l0_1.length c0_1,.string a0_2,.string a0_3,.string a0_4]) (t:=27) gS ?_;intro gb112 hg w4 hbox hb;have BK112:=aq (hbox);have GE112:=aq ((GN hg : w.heap.size ≤ gb112));replace HB:=aq (below_step bH hb);clear hb hbox hg)|((with_reducible refine gate_dst (N:=3) rfl ?_);refine box_event rfl (N:=3) rfl (cs:=#[.string a1_0,.string a1_1]) (t:=44) gS ?_;intro gb113 hg w5 hbox hb;have BK113:=aq (hbox);have GE113:=aq ((GN hg : w.heap.size ≤ gb113));have NB112_113:=aq (NL hg BK112);have NB113_112:=aq (NG hg BK112);replace BK112:=KN BK112 hb;replace HB:=aq (below_step bH hb);clear hb hbox hg)|((with_reducible refine gate_dst (N:=4) rfl ?_);refine box_event rfl (N:=4) rfl (cs:=#[.string (⟨#[]⟩ : ByteArray),.string (⟨#[]⟩ : ByteArray)]) (t:=44) gS ?_;intro gb114 hg w6 hbox hb;have BK114:=aq (hbox);have GE114:=aq ((GN hg : w.heap.size ≤ gb114));have NB112_114:=aq (NL hg BK112);have NB114_112:=aq (NG hg BK112);have NB113_114:=aq (NL hg BK113);have NB114_113:=aq (NG hg BK113);replace BK112:=KN BK112 hb;replace BK113:=KN BK113 hb;replace HB:=aq (below_step bH hb);clear hb hbox hg;have hnb7:=NB112_113.out;have hnc7:=NB113_112.out;have hnb8:=NB112_114.out;have hnc8:=NB114_112.out;have hcz9_0 : w6.cell? ⟨gb112,0,none⟩ = some (.slice A0_0 l0_0.length c0_0):=(blk_cell BK112.out 0).trans rfl;have hcz9_1 : w6.cell? ⟨gb112,1,none⟩ = some (.slice A0_1 l0_1.length c0_1):=(blk_cell BK112.out 1).trans rfl;have hcz9_2 : w6.cell? ⟨gb112,2,none⟩ = some (.string a0_2):=(blk_cell BK112.out 2).trans rfl;have hcz9_3 : w6.cell? ⟨gb112,3,none⟩ = some (.string a0_3):=(blk_cell BK112.out 3).trans rfl;have hcz9_4 : w6.cell? ⟨gb112,4,none⟩ = some (.string a0_4):=(blk_cell BK112.out 4).trans rfl;have hfz9_0:=blk_frozen BK112.out 0;have hfz9_1:=blk_frozen BK112.out 1;have hfz9_2:=blk_frozen BK112.out 2;have hfz9_3:=blk_frozen BK112.out 3;have hfz9_4:=blk_frozen BK112.out 4;have hnb10:=NB113_114.out;have hnc10:=NB114_113.out;have hcz11_0 : w6.cell? ⟨gb113,0,none⟩ = some (.string a1_0):=(blk_cell BK113.out 0).trans rfl;have hcz11_1 : w6.cell? ⟨gb113,1,none⟩ = some (.string a1_1):=(blk_cell BK113.out 1).trans rfl;have hfz11_0:=blk_frozen BK113.out 0;have hfz11_1:=blk_frozen BK113.out 1)|((with_reducible refine gate_callee (f:=79) rfl ?_);refine goesL_ (some 14) rfl rfl Try.func79 (by kernel_rfl) rfl #[.agg #[.slice A0_0 l0_0.length c0_0,.slice A0_1 l0_1.length c0_1,.string a0_2,.string a0_3,.string a0_4],.string a1_0] rfl eA ?_;(with_reducible refine (sr11_Supers.calls _ _ l0_0 _ _ l0_1 a0_2 a0_3 a0_4 a1_0 t115 _ ?side1 ?side2 ?side3 ?side4 A3.out).mono ?_);(case side1 => exact CU HR0_0);(case side2 => exact HC0_0.out);(case side3 => exact CU HR0_1);(case side4 => exact HC0_1.out);rintro e w12 ⟨v116,rfl,ho0,hb⟩;refine ⟨_,rfl,?_⟩;have HO117:=aq (Kd.R_lower ho0 (below_size bH));replace BK112:=KN BK112 hb;replace BK113:=KN BK113 hb;replace BK114:=aq (blk_below (g:=gb114) (o:=.cells #[.string (⟨#[]⟩ : ByteArray),.string (⟨#[]⟩ : ByteArray)] 44 (0,0)) (KU BK114.out) hb);replace HB:=aq (below_step bH hb);(try clear hb);(try clear hb2);(try clear hk);(try clear hi);(try clear ho0)))
 go_loopg [7] k (fun kq v7 w' => ∃ (x7_1 : Int) (x115000_1 : ByteArray) (x115001_1 : ByteArray),v7 = .int .i64 x7_1 ∧ Aside0 (sr12_Field.l0 kq t115 x7_1 l0_0 l0_1 a0_2 a0_3 a0_4 a1_0 a1_1 = some (r1,r2,r3)) ∧ Aside0 (kq ≤ k) ∧ Aside0 (Kd.R Kd.string 9 w' w.heap.size (fun _ => True) v116 t115) ∧ Aside0 (w'.heap[gb112]? = some (.cells #[(.slice A0_0 l0_0.length c0_0),(.slice A0_1 l0_1.length c0_1),.string a0_2,.string a0_3,.string a0_4] 27 (0,0))) ∧ Aside0 (w'.heap[gb113]? = some (.cells #[.string a1_0,.string a1_1] 44 (0,0))) ∧ Aside0 (w'.heap[gb114]? = some (.cells #[.string x115000_1,.string x115001_1] 44 (0,0))) ∧ Aside0 (Below w.heap.size w w'))
 case atStart => exact ⟨(0),((⟨#[]⟩ : ByteArray)),((⟨#[]⟩ : ByteArray)),eS,H',⟨Nat.le_refl _⟩,⟨by (with_reducible repeat (first|apply Kd.R_alloc|apply Kd.R_drewN|apply Kd.R_drew));exact HO117.out⟩,⟨KU BK112.out⟩,⟨KU BK113.out⟩,⟨KU BK114.out⟩,⟨bH⟩⟩
 case round =>
 clear H'
 (try clear hcz11_0);(try clear hcz11_1);(try clear hcz9_0);(try clear hcz9_1);(try clear hcz9_2);(try clear hcz9_3);(try clear hcz9_4);(try clear hfz11_0);(try clear hfz11_1);(try clear hfz9_0);(try clear hfz9_1);(try clear hfz9_2);(try clear hfz9_3);(try clear hfz9_4)
 obtain ⟨x7_1,x115000_1,x115001_1,rfl,HA,HK1,HO_6,BK112,BK113,BK114,HB⟩:=hrel
 cases gk with
 | zero => exact absurd HA.out (by simp [sr12_Field.l0])
 | succ k1 =>
 have H:=HA.out
 clear HA
 simp only [sr12_Field.l0] at H
 by_cases c13 : x7_1 < (t115.length : Int)
 rotate_left
 · rw [if_neg c13] at H
   have c13b0 : decide (x7_1 < (t115.length : Int)) = false:=decide_eq_false c13
   clear c13
   simp only [Option.some.injEq,Prod.mk.injEq] at H
   obtain ⟨rfl,rfl,rfl⟩:=H
   obtain ⟨Ao58,co58,eo58⟩:=Kd.R_slice HO_6.out
   subst eo58
   have hnb59:=NB114_112.out
   have hnc59:=NB112_114.out
   have hnb60:=NB114_113.out
   have hnc60:=NB113_114.out
   have hcz61_0 : wr.cell? ⟨gb114,0,none⟩ = some (.string x115000_1):=(blk_cell BK114.out 0).trans rfl
   have hcz61_1 : wr.cell? ⟨gb114,1,none⟩ = some (.string x115001_1):=(blk_cell BK114.out 1).trans rfl
   have hfz61_0:=blk_frozen BK114.out 0
   have hfz61_1:=blk_frozen BK114.out 1
   go_wp2
   refine bodyPost_ret (results_ct rfl _ _ gb114 44 #[.string (⟨#[]⟩ : ByteArray),.string (⟨#[]⟩ : ByteArray)] (0,0) _ rfl (by refine KU ?_;refine blk_put (cs:=#[.string (⟨#[]⟩ : ByteArray),.string x115001_1]) ?_ 1 _ rfl;refine KU ?_;refine blk_put (cs:=#[.string x115000_1,.string x115001_1]) ?_ 0 _ rfl;refine KU ?_;exact BK114.out) Try.underlying44 rfl (by kernel_rfl)) rfl ?_
   exact ⟨eR,bH⟩
 rw [if_pos c13] at H
 have c13b0 : decide (x7_1 < (t115.length : Int)) = true:=decide_eq_true c13
 clear c13
 by_cases c14 : 0 ≤ x7_1
 rotate_left
 · rw [if_neg c14] at H
   exact absurd H (by simp)
 rw [if_pos c14] at H
 have c14b0 : decide (0 ≤ x7_1) = true:=decide_eq_true c14
 clear c14
 replace H:=Option.bind_eq_some_iff.mp H
 obtain ⟨⟨t120,t121,t122,t123,t124⟩,A150,H⟩:=H
 replace H : (if t124 = true then (some (rdOf ByteArray.empty t115 x7_1,a1_1,true)) else (sr12_Field.l0 k1 t115 (wrap64 (x7_1 + 1)) l0_0 l0_1 a0_2 a0_3 a0_4 a1_0 a1_1)) = some (r1,r2,r3):=H
 have A15:=aq A150
 clear A150
 by_cases c16 : t124 = true
 rotate_left
 · replace c16:=Bool.eq_false_iff.mpr c16
   subst c16
   have H1 : (sr12_Field.l0 k1 t115 (wrap64 (x7_1 + 1)) l0_0 l0_1 a0_2 a0_3 a0_4 a1_0 a1_1) = some (r1,r2,r3):=by rw [if_neg (show ¬ (false = true) by decide)] at H;exact H
   clear H
   have H:=H1
   clear H1
   have H':=aq H
   clear H
   obtain ⟨Ao39,co39,eo39⟩:=Kd.R_slice HO_6.out
   subst eo39
   try go_wp2
   replace HO_6:=aq (Kd.R_drew HO_6.out)
   replace BK112:=aq (blk_drew BK112.out)
   replace BK113:=aq (blk_drew BK113.out)
   replace BK114:=aq (blk_drew BK114.out)
   replace HB:=aq (below_drew1 HB.out)
   have p118 : 0 ≤ (x7_1 : Int):=of_decide_eq_true aS
   have q118 : x7_1 < (t115.length : Int):=of_decide_eq_true aS
   obtain ⟨ad118,e118,hx118_0⟩:=Kd.at_string (Kd.R_reads' HO_6.out).2.2 x7_1 p118 q118
   cases e118
   replace p118:=eq_true p118
   replace q118:=eq_true q118
   refine start_ (n:=9) (S:=fun w' => w'.cell? ⟨gb113,0,none⟩ = some (.string a1_0) ∧ w'.cell? ⟨gb113,1,none⟩ = some (.string a1_1) ∧ w'.cell? (ad118.add (x7_1).toNat) = some (.string (rdOf ByteArray.empty t115 x7_1))) (ds:=[]) #[false,false,false,false,false,false,false,false,false] (by kernel_rfl) rfl rfl ⟨(blk_cell BK113.out 0).trans rfl,(blk_cell BK113.out 1).trans rfl,hx118_0⟩ (fun hHeld => ?_);refine with_tabW sr12_Field.tab5 sr12_Field.bits5 (fun HT_ HW_ => ?_)
   generalize wr.drew = w40 at HO_6 BK112 BK113 BK114 HB hx118_0 hHeld ⊢
   refine pS (i:=0) (N:=some 21) ?_
   refine pS (i:=1) (N:=some 22) ?_
   refine pS (i:=2) (N:=some 23) ?_
   refine pS (i:=4) (N:=some 25) ?_
   refine tS (i:=3) (N:=some 24) rfl rfl hHeld HT_.out HW_.out (by kernel_rfl) (Or.inl ⟨by rfl,by rintro w' ⟨s0,s1,s2⟩;go_simp;with_reducible rfl⟩) ?_
   refine tS (i:=5) (N:=some 26) rfl rfl hHeld HT_.out HW_.out (by kernel_rfl) (Or.inl ⟨by rfl,by rintro w' ⟨s0,s1,s2⟩;go_simp;with_reducible rfl⟩) ?_
   refine pS (i:=6) (N:=some 27) ?_
   refine one_ (i:=7) (N:=some 8) #[true,true,true,true,true,true,true,true,false] rfl rfl (one_of HT_.out (by kernel_rfl)) (by decide) (fun K hK => ?_)
   refine box_step ?hg (N:=8) ?hd (cs:=#[.string (⟨#[]⟩ : ByteArray),.string (⟨#[]⟩ : ByteArray)]) (t:=44) ?hr ?_;(case hd => rfl);(case hg => rfl);(case hr => first|(go_simp;done)|(go_simp;rfl))
   intro gb119 hg w41 hbox hb
   have HS2_:=(hb.cell (World.block_lt_of_cell? _ _ (hHeld.2.2))).trans (hHeld.2.2)
   have BK119:=aq (hbox)
   have GE119:=aq ((GN hg : w.heap.size ≤ gb119))
   have NB112_119:=aq (NL hg BK112)
   have NB119_112:=aq (NG hg BK112)
   have NB113_119:=aq (NL hg BK113)
   have NB119_113:=aq (NG hg BK113)
   have NB114_119:=aq (NL hg BK114)
   have NB119_114:=aq (NG hg BK114)
   replace HO_6:=RN HO_6 hb
   replace BK112:=KN BK112 hb
   replace BK113:=KN BK113 hb
   replace BK114:=KN BK114 hb
   replace HB:=aq (below_step bH hb)
   clear hb hbox hg
   refine hK.out _ _ ⟨(blk_cell BK113.out 0).trans rfl,(blk_cell BK113.out 1).trans rfl,HS2_⟩ (fun hHeld => ?_)
   clear hK K
   refine norm_ (a':=?_) ?_ ?_
   rotate_left
   · show Act.put _ (some 8) _ = _
     simp only [Act.put,List.setIfInBounds_toArray,List.set_cons_zero,List.set_cons_succ,i64_w,i32_w]
     rfl
   refine one_ (i:=8) (N:=none) #[true,true,true,true,true,true,true,true,true] rfl rfl (one_of HT_.out (by kernel_rfl)) (by decide) (fun K hK => ?_)
   have hs42 : w41.cell? ⟨gb119,0,none⟩ = some (.string (⟨#[]⟩ : ByteArray)):=(blk_cell BK119.out 0).trans rfl
   have hfs42:=blk_frozen BK119.out 0
   have hns42_0:=NB112_119.out
   have hns42_1:=NB113_119.out
   have hns42_2:=NB114_119.out
   have hms42_0:=NB119_112.out
   have hms42_1:=NB119_113.out
   have hms42_2:=NB119_114.out
   have hs43 : w41.cell? ⟨gb119,1,none⟩ = some (.string (⟨#[]⟩ : ByteArray)):=(blk_cell BK119.out 1).trans rfl
   have hfs43:=blk_frozen BK119.out 1
   have hns43_0:=NB112_119.out
   have hns43_1:=NB113_119.out
   have hns43_2:=NB114_119.out
   have hms43_0:=NB119_112.out
   have hms43_1:=NB119_113.out
   have hms43_2:=NB119_114.out
   refine skip_ (w1:=?_) (by rfl) rfl ?_ ?_
   rotate_left
   · go_simp
     rfl
   refine hK.out _ _ ⟨((cell_far (p:=⟨gb119,_,none⟩) NB113_119.out _).trans (((cell_far (p:=⟨gb119,_,none⟩) NB113_119.out _).trans (hHeld.1)))),((cell_far (p:=⟨gb119,_,none⟩) NB113_119.out _).trans (((cell_far (p:=⟨gb119,_,none⟩) NB113_119.out _).trans (hHeld.2.1)))),((cell_far (p:=⟨gb119,_,none⟩) (by first|exact Kd.own_blk (Kd.R_ne HO_6.out BK119.out (by decide))|(rw [add_block];exact Kd.own_blk (Kd.R_ne HO_6.out BK119.out (by decide)))|(show (Addr.add _ _).block ≠ _;rw [add_block];exact Kd.own_blk (Kd.R_ne HO_6.out BK119.out (by decide)))|(dsimp only;exact Kd.own_blk (Kd.R_ne HO_6.out BK119.out (by decide)))) _).trans (((cell_far (p:=⟨gb119,_,none⟩) (by first|exact Kd.own_blk (Kd.R_ne HO_6.out BK119.out (by decide))|(rw [add_block];exact Kd.own_blk (Kd.R_ne HO_6.out BK119.out (by decide)))|(show (Addr.add _ _).block ≠ _;rw [add_block];exact Kd.own_blk (Kd.R_ne HO_6.out BK119.out (by decide)))|(dsimp only;exact Kd.own_blk (Kd.R_ne HO_6.out BK119.out (by decide)))) _).trans (hHeld.2.2))))⟩ (fun hHeld => ?_)
   clear hK K
   refine done_ (done_of HT_.out (by kernel_rfl)) ?_
   have hnb44:=NB112_113.out
   have hnc44:=NB113_112.out
   have hnb45:=NB112_114.out
   have hnc45:=NB114_112.out
   have hnb46:=NB112_119.out
   have hnc46:=NB119_112.out
   have hcz47_0 : w41.cell? ⟨gb112,0,none⟩ = some (.slice A0_0 l0_0.length c0_0):=(blk_cell BK112.out 0).trans rfl
   have hcz47_1 : w41.cell? ⟨gb112,1,none⟩ = some (.slice A0_1 l0_1.length c0_1):=(blk_cell BK112.out 1).trans rfl
   have hcz47_2 : w41.cell? ⟨gb112,2,none⟩ = some (.string a0_2):=(blk_cell BK112.out 2).trans rfl
   have hcz47_3 : w41.cell? ⟨gb112,3,none⟩ = some (.string a0_3):=(blk_cell BK112.out 3).trans rfl
   have hcz47_4 : w41.cell? ⟨gb112,4,none⟩ = some (.string a0_4):=(blk_cell BK112.out 4).trans rfl
   have hfz47_0:=blk_frozen BK112.out 0
   have hfz47_1:=blk_frozen BK112.out 1
   have hfz47_2:=blk_frozen BK112.out 2
   have hfz47_3:=blk_frozen BK112.out 3
   have hfz47_4:=blk_frozen BK112.out 4
   have hnb48:=NB119_113.out
   have hnc48:=NB113_119.out
   have hnb49:=NB119_114.out
   have hnc49:=NB114_119.out
   have hcz50_0 : w41.cell? ⟨gb119,0,none⟩ = some (.string (⟨#[]⟩ : ByteArray)):=(blk_cell BK119.out 0).trans rfl
   have hcz50_1 : w41.cell? ⟨gb119,1,none⟩ = some (.string (⟨#[]⟩ : ByteArray)):=(blk_cell BK119.out 1).trans rfl
   have hfz50_0:=blk_frozen BK119.out 0
   have hfz50_1:=blk_frozen BK119.out 1
   try go_wp2_with (first|((with_reducible refine gate_callee (f:=50) rfl ?_);refine goesL_ (some 31) rfl rfl Try.func50 (by kernel_rfl) rfl #[.agg #[.slice A0_0 l0_0.length c0_0,.slice A0_1 l0_1.length c0_1,.string a0_2,.string a0_3,.string a0_4],.agg #[.string (rdOf ByteArray.empty t115 x7_1),.string a1_1]] rfl eA ?_;(with_reducible refine (sr12_FieldOf.calls _ _ l0_0 _ _ l0_1 a0_2 a0_3 a0_4 (rdOf ByteArray.empty t115 x7_1) a1_1 t120 t121 t122 t123 false _ ?side1 ?side2 ?side3 ?side4 A15.out).mono ?_);(case side1 => exact Kd.C_below HR0_0.out bH);(case side2 => exact HC0_0.out);(case side3 => exact Kd.C_below HR0_1.out bH);(case side4 => exact HC0_1.out);rintro e w51 ⟨rfl,hb⟩;refine ⟨_,rfl,?_⟩;replace HO_6:=aq (Kd.R_below (by (with_reducible repeat (first|apply Kd.R_alloc|apply Kd.R_drewN|apply Kd.R_drew));exact (Kd.R_mono (RF gb119 1 (RF gb119 0 (Kd.R_types HO_6.out BK119.out (by decide)) (.string (rdOf ByteArray.empty t115 x7_1))) (.string a1_1)) (fun _ h_ => h_.1))) hb);replace BK112:=aq (blk_below (g:=gb112) (o:=.cells #[.slice A0_0 l0_0.length c0_0,.slice A0_1 l0_1.length c0_1,.string a0_2,.string a0_3,.string a0_4] 27 (0,0)) (by refine KU ?_;refine blk_far ?_ NB112_119.out _;refine KU ?_;refine blk_far ?_ NB112_119.out _;refine KU ?_;exact BK112.out) hb);replace BK113:=aq (blk_below (g:=gb113) (o:=.cells #[.string a1_0,.string a1_1] 44 (0,0)) (by refine KU ?_;refine blk_far ?_ NB113_119.out _;refine KU ?_;refine blk_far ?_ NB113_119.out _;refine KU ?_;exact BK113.out) hb);replace BK114:=aq (blk_below (g:=gb114) (o:=.cells #[.string x115000_1,.string x115001_1] 44 (0,0)) (by refine KU ?_;refine blk_far ?_ NB114_119.out _;refine KU ?_;refine blk_far ?_ NB114_119.out _;refine KU ?_;exact BK114.out) hb);replace BK119:=aq (blk_below (g:=gb119) (o:=.cells #[.string (rdOf ByteArray.empty t115 x7_1),.string a1_1] 44 (0,0)) (by refine KU ?_;refine blk_put (cs:=#[.string (rdOf ByteArray.empty t115 x7_1),.string (⟨#[]⟩ : ByteArray)]) ?_ 1 _ rfl;refine KU ?_;refine blk_put (cs:=#[.string (⟨#[]⟩ : ByteArray),.string (⟨#[]⟩ : ByteArray)]) ?_ 0 _ rfl;refine KU ?_;exact BK119.out) hb);replace HB:=aq (below_step bH hb);(try clear hb);(try clear hb2);(try clear hk);(try clear hi))|((with_reducible refine gate_dst (N:=9) rfl ?_);refine box_event rfl (N:=9) rfl (cs:=#[.string (⟨#[]⟩ : ByteArray),.int .i64 0,.string (⟨#[]⟩ : ByteArray),.bool false]) (t:=103) gS ?_;intro gb125 hg w52 hbox hb;have BK125:=aq (hbox);have GE125:=aq ((GN hg : w.heap.size ≤ gb125));have NB112_125:=aq (NL hg BK112);have NB125_112:=aq (NG hg BK112);have NB113_125:=aq (NL hg BK113);have NB125_113:=aq (NG hg BK113);have NB114_125:=aq (NL hg BK114);have NB125_114:=aq (NG hg BK114);have NB119_125:=aq (NL hg BK119);have NB125_119:=aq (NG hg BK119);replace HO_6:=RN HO_6 hb;replace BK112:=KN BK112 hb;replace BK113:=KN BK113 hb;replace BK114:=KN BK114 hb;replace BK119:=KN BK119 hb;replace HB:=aq (below_step bH hb);clear hb hbox hg;have hnb53:=NB125_112.out;have hnc53:=NB112_125.out;have hnb54:=NB125_113.out;have hnc54:=NB113_125.out;have hnb55:=NB125_114.out;have hnc55:=NB114_125.out;have hnb56:=NB125_119.out;have hnc56:=NB119_125.out;have hcz57_0 : w52.cell? ⟨gb125,0,none⟩ = some (.string (⟨#[]⟩ : ByteArray)):=(blk_cell BK125.out 0).trans rfl;have hcz57_1 : w52.cell? ⟨gb125,1,none⟩ = some (.int .i64 0):=(blk_cell BK125.out 1).trans rfl;have hcz57_2 : w52.cell? ⟨gb125,2,none⟩ = some (.string (⟨#[]⟩ : ByteArray)):=(blk_cell BK125.out 2).trans rfl;have hcz57_3 : w52.cell? ⟨gb125,3,none⟩ = some (.bool false):=(blk_cell BK125.out 3).trans rfl;have hfz57_0:=blk_frozen BK125.out 0;have hfz57_1:=blk_frozen BK125.out 1;have hfz57_2:=blk_frozen BK125.out 2;have hfz57_3:=blk_frozen BK125.out 3))
   go_roundg k1
   case measure => have:=HK1.out;omega
   case rel => exact ⟨(wrap64 (x7_1 + 1)),(x115000_1),(x115001_1),eS,H',⟨by have:=HK1.out;omega⟩,⟨by (with_reducible repeat (first|apply Kd.R_alloc|apply Kd.R_drewN|apply Kd.R_drew));exact Kd.R_mono (RF gb125 3 (RF gb125 2 (RF gb125 1 (RF gb125 0 (Kd.R_types HO_6.out BK125.out (by decide)) (.string t120)) (.int .i64 t121)) (.string t122)) (.bool t123)) (fun _ hk => trivial)⟩,⟨by refine KU ?_;refine blk_far ?_ NB112_125.out _;refine KU ?_;refine blk_far ?_ NB112_125.out _;refine KU ?_;refine blk_far ?_ NB112_125.out _;refine KU ?_;refine blk_far ?_ NB112_125.out _;refine KU ?_;exact BK112.out⟩,⟨by refine KU ?_;refine blk_far ?_ NB113_125.out _;refine KU ?_;refine blk_far ?_ NB113_125.out _;refine KU ?_;refine blk_far ?_ NB113_125.out _;refine KU ?_;refine blk_far ?_ NB113_125.out _;refine KU ?_;exact BK113.out⟩,⟨by refine KU ?_;refine blk_far ?_ NB114_125.out _;refine KU ?_;refine blk_far ?_ NB114_125.out _;refine KU ?_;refine blk_far ?_ NB114_125.out _;refine KU ?_;refine blk_far ?_ NB114_125.out _;refine KU ?_;exact BK114.out⟩,⟨bH⟩⟩
 subst c16
 have H1 : (some (rdOf ByteArray.empty t115 x7_1,a1_1,true)) = some (r1,r2,r3):=by rw [if_pos rfl] at H;exact H
 clear H
 have H:=H1
 clear H1
 simp only [Option.some.injEq,Prod.mk.injEq] at H
 obtain ⟨rfl,rfl,rfl⟩:=H
 obtain ⟨Ao17,co17,eo17⟩:=Kd.R_slice HO_6.out
 subst eo17
 try go_wp2
 replace HO_6:=aq (Kd.R_drew HO_6.out)
 replace BK112:=aq (blk_drew BK112.out)
 replace BK113:=aq (blk_drew BK113.out)
 replace BK114:=aq (blk_drew BK114.out)
 replace HB:=aq (below_drew1 HB.out)
 have p118 : 0 ≤ (x7_1 : Int):=of_decide_eq_true aS
 have q118 : x7_1 < (t115.length : Int):=of_decide_eq_true aS
 obtain ⟨ad118,e118,hx118_0⟩:=Kd.at_string (Kd.R_reads' HO_6.out).2.2 x7_1 p118 q118
 cases e118
 replace p118:=eq_true p118
 replace q118:=eq_true q118
 refine start_ (n:=9) (S:=fun w' => w'.cell? ⟨gb113,0,none⟩ = some (.string a1_0) ∧ w'.cell? ⟨gb113,1,none⟩ = some (.string a1_1) ∧ w'.cell? (ad118.add (x7_1).toNat) = some (.string (rdOf ByteArray.empty t115 x7_1))) (ds:=[]) #[false,false,false,false,false,false,false,false,false] (by kernel_rfl) rfl rfl ⟨(blk_cell BK113.out 0).trans rfl,(blk_cell BK113.out 1).trans rfl,hx118_0⟩ (fun hHeld => ?_);refine with_tabW sr12_Field.tab5 sr12_Field.bits5 (fun HT_ HW_ => ?_)
 generalize wr.drew = w18 at HO_6 BK112 BK113 BK114 HB hx118_0 hHeld ⊢
 refine pS (i:=0) (N:=some 21) ?_
 refine pS (i:=1) (N:=some 22) ?_
 refine pS (i:=2) (N:=some 23) ?_
 refine pS (i:=4) (N:=some 25) ?_
 refine tS (i:=3) (N:=some 24) rfl rfl hHeld HT_.out HW_.out (by kernel_rfl) (Or.inl ⟨by rfl,by rintro w' ⟨s0,s1,s2⟩;go_simp;with_reducible rfl⟩) ?_
 refine tS (i:=5) (N:=some 26) rfl rfl hHeld HT_.out HW_.out (by kernel_rfl) (Or.inl ⟨by rfl,by rintro w' ⟨s0,s1,s2⟩;go_simp;with_reducible rfl⟩) ?_
 refine pS (i:=6) (N:=some 27) ?_
 refine one_ (i:=7) (N:=some 8) #[true,true,true,true,true,true,true,true,false] rfl rfl (one_of HT_.out (by kernel_rfl)) (by decide) (fun K hK => ?_)
 refine box_step ?hg (N:=8) ?hd (cs:=#[.string (⟨#[]⟩ : ByteArray),.string (⟨#[]⟩ : ByteArray)]) (t:=44) ?hr ?_;(case hd => rfl);(case hg => rfl);(case hr => first|(go_simp;done)|(go_simp;rfl))
 intro gb119 hg w19 hbox hb
 have HS2_:=(hb.cell (World.block_lt_of_cell? _ _ (hHeld.2.2))).trans (hHeld.2.2)
 have BK119:=aq (hbox)
 have GE119:=aq ((GN hg : w.heap.size ≤ gb119))
 have NB112_119:=aq (NL hg BK112)
 have NB119_112:=aq (NG hg BK112)
 have NB113_119:=aq (NL hg BK113)
 have NB119_113:=aq (NG hg BK113)
 have NB114_119:=aq (NL hg BK114)
 have NB119_114:=aq (NG hg BK114)
 replace HO_6:=RN HO_6 hb
 replace BK112:=KN BK112 hb
 replace BK113:=KN BK113 hb
 replace BK114:=KN BK114 hb
 replace HB:=aq (below_step bH hb)
 clear hb hbox hg
 refine hK.out _ _ ⟨(blk_cell BK113.out 0).trans rfl,(blk_cell BK113.out 1).trans rfl,HS2_⟩ (fun hHeld => ?_)
 clear hK K
 refine norm_ (a':=?_) ?_ ?_
 rotate_left
 · show Act.put _ (some 8) _ = _
   simp only [Act.put,List.setIfInBounds_toArray,List.set_cons_zero,List.set_cons_succ,i64_w,i32_w]
   rfl
 refine one_ (i:=8) (N:=none) #[true,true,true,true,true,true,true,true,true] rfl rfl (one_of HT_.out (by kernel_rfl)) (by decide) (fun K hK => ?_)
 have hs20 : w19.cell? ⟨gb119,0,none⟩ = some (.string (⟨#[]⟩ : ByteArray)):=(blk_cell BK119.out 0).trans rfl
 have hfs20:=blk_frozen BK119.out 0
 have hns20_0:=NB112_119.out
 have hns20_1:=NB113_119.out
 have hns20_2:=NB114_119.out
 have hms20_0:=NB119_112.out
 have hms20_1:=NB119_113.out
 have hms20_2:=NB119_114.out
 have hs21 : w19.cell? ⟨gb119,1,none⟩ = some (.string (⟨#[]⟩ : ByteArray)):=(blk_cell BK119.out 1).trans rfl
 have hfs21:=blk_frozen BK119.out 1
 have hns21_0:=NB112_119.out
 have hns21_1:=NB113_119.out
 have hns21_2:=NB114_119.out
 have hms21_0:=NB119_112.out
 have hms21_1:=NB119_113.out
 have hms21_2:=NB119_114.out
 refine skip_ (w1:=?_) (by rfl) rfl ?_ ?_
 rotate_left
 · go_simp
   rfl
 refine hK.out _ _ ⟨((cell_far (p:=⟨gb119,_,none⟩) NB113_119.out _).trans (((cell_far (p:=⟨gb119,_,none⟩) NB113_119.out _).trans (hHeld.1)))),((cell_far (p:=⟨gb119,_,none⟩) NB113_119.out _).trans (((cell_far (p:=⟨gb119,_,none⟩) NB113_119.out _).trans (hHeld.2.1)))),((cell_far (p:=⟨gb119,_,none⟩) (by first|exact Kd.own_blk (Kd.R_ne HO_6.out BK119.out (by decide))|(rw [add_block];exact Kd.own_blk (Kd.R_ne HO_6.out BK119.out (by decide)))|(show (Addr.add _ _).block ≠ _;rw [add_block];exact Kd.own_blk (Kd.R_ne HO_6.out BK119.out (by decide)))|(dsimp only;exact Kd.own_blk (Kd.R_ne HO_6.out BK119.out (by decide)))) _).trans (((cell_far (p:=⟨gb119,_,none⟩) (by first|exact Kd.own_blk (Kd.R_ne HO_6.out BK119.out (by decide))|(rw [add_block];exact Kd.own_blk (Kd.R_ne HO_6.out BK119.out (by decide)))|(show (Addr.add _ _).block ≠ _;rw [add_block];exact Kd.own_blk (Kd.R_ne HO_6.out BK119.out (by decide)))|(dsimp only;exact Kd.own_blk (Kd.R_ne HO_6.out BK119.out (by decide)))) _).trans (hHeld.2.2))))⟩ (fun hHeld => ?_)
 clear hK K
 refine done_ (done_of HT_.out (by kernel_rfl)) ?_
 have hnb22:=NB112_113.out
 have hnc22:=NB113_112.out
 have hnb23:=NB112_114.out
 have hnc23:=NB114_112.out
 have hnb24:=NB112_119.out
 have hnc24:=NB119_112.out
 have hcz25_0 : w19.cell? ⟨gb112,0,none⟩ = some (.slice A0_0 l0_0.length c0_0):=(blk_cell BK112.out 0).trans rfl
 have hcz25_1 : w19.cell? ⟨gb112,1,none⟩ = some (.slice A0_1 l0_1.length c0_1):=(blk_cell BK112.out 1).trans rfl
 have hcz25_2 : w19.cell? ⟨gb112,2,none⟩ = some (.string a0_2):=(blk_cell BK112.out 2).trans rfl
 have hcz25_3 : w19.cell? ⟨gb112,3,none⟩ = some (.string a0_3):=(blk_cell BK112.out 3).trans rfl
 have hcz25_4 : w19.cell? ⟨gb112,4,none⟩ = some (.string a0_4):=(blk_cell BK112.out 4).trans rfl
 have hfz25_0:=blk_frozen BK112.out 0
 have hfz25_1:=blk_frozen BK112.out 1
 have hfz25_2:=blk_frozen BK112.out 2
 have hfz25_3:=blk_frozen BK112.out 3
 have hfz25_4:=blk_frozen BK112.out 4
 have hnb26:=NB119_113.out
 have hnc26:=NB113_119.out
 have hnb27:=NB119_114.out
 have hnc27:=NB114_119.out
 have hcz28_0 : w19.cell? ⟨gb119,0,none⟩ = some (.string (⟨#[]⟩ : ByteArray)):=(blk_cell BK119.out 0).trans rfl
 have hcz28_1 : w19.cell? ⟨gb119,1,none⟩ = some (.string (⟨#[]⟩ : ByteArray)):=(blk_cell BK119.out 1).trans rfl
 have hfz28_0:=blk_frozen BK119.out 0
 have hfz28_1:=blk_frozen BK119.out 1
 try go_wp2_with (first|((with_reducible refine gate_callee (f:=50) rfl ?_);refine goesL_ (some 31) rfl rfl Try.func50 (by kernel_rfl) rfl #[.agg #[.slice A0_0 l0_0.length c0_0,.slice A0_1 l0_1.length c0_1,.string a0_2,.string a0_3,.string a0_4],.agg #[.string (rdOf ByteArray.empty t115 x7_1),.string a1_1]] rfl eA ?_;(with_reducible refine (sr12_FieldOf.calls _ _ l0_0 _ _ l0_1 a0_2 a0_3 a0_4 (rdOf ByteArray.empty t115 x7_1) a1_1 t120 t121 t122 t123 true _ ?side1 ?side2 ?side3 ?side4 A15.out).mono ?_);(case side1 => exact Kd.C_below HR0_0.out bH);(case side2 => exact HC0_0.out);(case side3 => exact Kd.C_below HR0_1.out bH);(case side4 => exact HC0_1.out);rintro e w29 ⟨rfl,hb⟩;refine ⟨_,rfl,?_⟩;replace HO_6:=aq (Kd.R_below (by (with_reducible repeat (first|apply Kd.R_alloc|apply Kd.R_drewN|apply Kd.R_drew));exact (Kd.R_mono (RF gb119 1 (RF gb119 0 (Kd.R_types HO_6.out BK119.out (by decide)) (.string (rdOf ByteArray.empty t115 x7_1))) (.string a1_1)) (fun _ h_ => h_.1))) hb);replace BK112:=aq (blk_below (g:=gb112) (o:=.cells #[.slice A0_0 l0_0.length c0_0,.slice A0_1 l0_1.length c0_1,.string a0_2,.string a0_3,.string a0_4] 27 (0,0)) (by refine KU ?_;refine blk_far ?_ NB112_119.out _;refine KU ?_;refine blk_far ?_ NB112_119.out _;refine KU ?_;exact BK112.out) hb);replace BK113:=aq (blk_below (g:=gb113) (o:=.cells #[.string a1_0,.string a1_1] 44 (0,0)) (by refine KU ?_;refine blk_far ?_ NB113_119.out _;refine KU ?_;refine blk_far ?_ NB113_119.out _;refine KU ?_;exact BK113.out) hb);replace BK114:=aq (blk_below (g:=gb114) (o:=.cells #[.string x115000_1,.string x115001_1] 44 (0,0)) (by refine KU ?_;refine blk_far ?_ NB114_119.out _;refine KU ?_;refine blk_far ?_ NB114_119.out _;refine KU ?_;exact BK114.out) hb);replace BK119:=aq (blk_below (g:=gb119) (o:=.cells #[.string (rdOf ByteArray.empty t115 x7_1),.string a1_1] 44 (0,0)) (by refine KU ?_;refine blk_put (cs:=#[.string (rdOf ByteArray.empty t115 x7_1),.string (⟨#[]⟩ : ByteArray)]) ?_ 1 _ rfl;refine KU ?_;refine blk_put (cs:=#[.string (⟨#[]⟩ : ByteArray),.string (⟨#[]⟩ : ByteArray)]) ?_ 0 _ rfl;refine KU ?_;exact BK119.out) hb);replace HB:=aq (below_step bH hb);(try clear hb);(try clear hb2);(try clear hk);(try clear hi))|((with_reducible refine gate_dst (N:=9) rfl ?_);refine box_event rfl (N:=9) rfl (cs:=#[.string (⟨#[]⟩ : ByteArray),.int .i64 0,.string (⟨#[]⟩ : ByteArray),.bool false]) (t:=103) gS ?_;intro gb125 hg w30 hbox hb;have BK125:=aq (hbox);have GE125:=aq ((GN hg : w.heap.size ≤ gb125));have NB112_125:=aq (NL hg BK112);have NB125_112:=aq (NG hg BK112);have NB113_125:=aq (NL hg BK113);have NB125_113:=aq (NG hg BK113);have NB114_125:=aq (NL hg BK114);have NB125_114:=aq (NG hg BK114);have NB119_125:=aq (NL hg BK119);have NB125_119:=aq (NG hg BK119);replace HO_6:=RN HO_6 hb;replace BK112:=KN BK112 hb;replace BK113:=KN BK113 hb;replace BK114:=KN BK114 hb;replace BK119:=KN BK119 hb;replace HB:=aq (below_step bH hb);clear hb hbox hg;have hnb31:=NB125_112.out;have hnc31:=NB112_125.out;have hnb32:=NB125_113.out;have hnc32:=NB113_125.out;have hnb33:=NB125_114.out;have hnc33:=NB114_125.out;have hnb34:=NB125_119.out;have hnc34:=NB119_125.out;have hcz35_0 : w30.cell? ⟨gb125,0,none⟩ = some (.string (⟨#[]⟩ : ByteArray)):=(blk_cell BK125.out 0).trans rfl;have hcz35_1 : w30.cell? ⟨gb125,1,none⟩ = some (.int .i64 0):=(blk_cell BK125.out 1).trans rfl;have hcz35_2 : w30.cell? ⟨gb125,2,none⟩ = some (.string (⟨#[]⟩ : ByteArray)):=(blk_cell BK125.out 2).trans rfl;have hcz35_3 : w30.cell? ⟨gb125,3,none⟩ = some (.bool false):=(blk_cell BK125.out 3).trans rfl;have hfz35_0:=blk_frozen BK125.out 0;have hfz35_1:=blk_frozen BK125.out 1;have hfz35_2:=blk_frozen BK125.out 2;have hfz35_3:=blk_frozen BK125.out 3;have hcz36_0 : w30.cell? ⟨gb119,0,none⟩ = some (.string (rdOf ByteArray.empty t115 x7_1)):=(blk_cell BK119.out 0).trans rfl;have hcz36_1 : w30.cell? ⟨gb119,1,none⟩ = some (.string a1_1):=(blk_cell BK119.out 1).trans rfl;have hfz36_0:=blk_frozen BK119.out 0;have hfz36_1:=blk_frozen BK119.out 1;have hnb37:=NB114_113.out;have hnc37:=NB113_114.out;have hcz38_0 : w30.cell? ⟨gb114,0,none⟩ = some (.string x115000_1):=(blk_cell BK114.out 0).trans rfl;have hcz38_1 : w30.cell? ⟨gb114,1,none⟩ = some (.string x115001_1):=(blk_cell BK114.out 1).trans rfl;have hfz38_0:=blk_frozen BK114.out 0;have hfz38_1:=blk_frozen BK114.out 1))
 refine bodyPost_ret (results_ct rfl _ _ gb114 44 #[.string (rdOf ByteArray.empty t115 x7_1),.string a1_1] (0,0) _ rfl (by refine KU ?_;refine blk_put (cs:=#[.string (rdOf ByteArray.empty t115 x7_1),.string x115001_1]) ?_ 1 _ rfl;refine KU ?_;refine blk_put (cs:=#[.string x115000_1,.string x115001_1]) ?_ 0 _ rfl;refine KU ?_;refine blk_far ?_ NB114_125.out _;refine KU ?_;refine blk_far ?_ NB114_125.out _;refine KU ?_;refine blk_far ?_ NB114_125.out _;refine KU ?_;refine blk_far ?_ NB114_125.out _;refine KU ?_;exact BK114.out) Try.underlying44 rfl (by kernel_rfl)) rfl ?_
 exact ⟨eR,bH⟩
def sr06_IsRef.f (a0_0 : Int) (a0_1 : ByteArray) : Option (Bool) := if a0_0 = 3 then (some true) else (if a0_0 = 4 then (some true) else (some (a0_0 == 5)))
theorem sr06_IsRef.calls (a0_0 : Int) (a0_1 : ByteArray) (r : Bool) (w : World) (h : sr06_IsRef.f a0_0 a0_1 = some r) :
    Calls Try.prog 52 #[.agg #[.int .i64 a0_0,.string a0_1]] w fun e w' => e = .returned (.bool r) ∧ Below w.heap.size w w':=by
 have hu97:=Try.underlying97
 have HB:=aq (Below.refl w.heap.size w)
 have H : (if a0_0 = 3 then (some true) else (if a0_0 = 4 then (some true) else (some (a0_0 == 5)))) = some r:=h
 clear h
 by_cases c2 : a0_0 = 3
 · rw [if_pos c2] at H
   have c2b0 : (a0_0 == 3) = true:=beq_iff_eq.mpr c2
   have c2b1 : (a0_0 != 3) = false:=bne_eq_false_iff_eq.mpr c2
   clear c2
   obtain rfl:=Option.some.inj H
   go_enter Try.func52,Try.ntmps52
   go_wp2_with (first|((with_reducible refine gate_dst (N:=1) rfl ?_);refine box_event rfl (N:=1) rfl (cs:=#[.int .i64 a0_0,.string a0_1]) (t:=97) gS ?_;intro gb126 hg w3 hbox hb;have BK126:=aq (hbox);have GE126:=aq ((GN hg : w.heap.size ≤ gb126));replace HB:=aq (below_step bH hb);clear hb hbox hg;have hcz4_0 : w3.cell? ⟨gb126,0,none⟩ = some (.int .i64 a0_0):=(blk_cell BK126.out 0).trans rfl;have hcz4_1 : w3.cell? ⟨gb126,1,none⟩ = some (.string a0_1):=(blk_cell BK126.out 1).trans rfl;have hfz4_0:=blk_frozen BK126.out 0;have hfz4_1:=blk_frozen BK126.out 1))
   go_ret
   exact ⟨eR,bH⟩
 rw [if_neg c2] at H
 have c2b0 : (a0_0 == 3) = false:=beq_eq_false_iff_ne.mpr c2
 have c2b1 : (a0_0 != 3) = true:=bne_iff_ne.mpr c2
 by_cases c5 : a0_0 = 4
 rotate_left
 · rw [if_neg c5] at H
   have c5b0 : (a0_0 == 4) = false:=beq_eq_false_iff_ne.mpr c5
   have c5b1 : (a0_0 != 4) = true:=bne_iff_ne.mpr c5
   obtain rfl:=Option.some.inj H
   go_enter Try.func52,Try.ntmps52
   go_wp2_with (first|((with_reducible refine gate_dst (N:=1) rfl ?_);refine box_event rfl (N:=1) rfl (cs:=#[.int .i64 a0_0,.string a0_1]) (t:=97) gS ?_;intro gb126 hg w8 hbox hb;have BK126:=aq (hbox);have GE126:=aq ((GN hg : w.heap.size ≤ gb126));replace HB:=aq (below_step bH hb);clear hb hbox hg;have hcz9_0 : w8.cell? ⟨gb126,0,none⟩ = some (.int .i64 a0_0):=(blk_cell BK126.out 0).trans rfl;have hcz9_1 : w8.cell? ⟨gb126,1,none⟩ = some (.string a0_1):=(blk_cell BK126.out 1).trans rfl;have hfz9_0:=blk_frozen BK126.out 0;have hfz9_1:=blk_frozen BK126.out 1))
   go_ret
   exact ⟨eR,bH⟩
 rw [if_pos c5] at H
 have c5b0 : (a0_0 == 4) = true:=beq_iff_eq.mpr c5
 have c5b1 : (a0_0 != 4) = false:=bne_eq_false_iff_eq.mpr c5
 clear c5
 obtain rfl:=Option.some.inj H
 go_enter Try.func52,Try.ntmps52
 go_wp2_with (first|((with_reducible refine gate_dst (N:=1) rfl ?_);refine box_event rfl (N:=1) rfl (cs:=#[.int .i64 a0_0,.string a0_1]) (t:=97) gS ?_;intro gb126 hg w6 hbox hb;have BK126:=aq (hbox);have GE126:=aq ((GN hg : w.heap.size ≤ gb126));replace HB:=aq (below_step bH hb);clear hb hbox hg;have hcz7_0 : w6.cell? ⟨gb126,0,none⟩ = some (.int .i64 a0_0):=(blk_cell BK126.out 0).trans rfl;have hcz7_1 : w6.cell? ⟨gb126,1,none⟩ = some (.string a0_1):=(blk_cell BK126.out 1).trans rfl;have hfz7_0:=blk_frozen BK126.out 0;have hfz7_1:=blk_frozen BK126.out 1))
 go_ret
 exact ⟨eR,bH⟩
end Go.Proofs.Ytfplcohjnlbfjaa.Q54
end
