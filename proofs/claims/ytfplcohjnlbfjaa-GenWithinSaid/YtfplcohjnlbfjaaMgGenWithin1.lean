import Derived.Test.YtfplcohjnlbfjaaMgGenWithin0
import Derived.Test.YtfplcohjnlbfjaaRows
import Derived.ProofKit
import Derived.JoinedCond
import Derived.KernelRfl
import Derived.Test.YtfplcohjnlbfjaaProg
import Derived.Below
import Derived.Deep.Draws
import Derived.Deep.AppendLies
import Derived.Maps.AppendAt
import Derived.OwnWalk
import Derived.Laws.BytesArg
import Derived.Laws.MakeOwn
import Derived.Laws.OwnMore
import Derived.Deep.OwnRows
import Derived.Tactics
import Derived.Lib.ConvBytes
import Derived.Laws.Slices
import Derived.WalkKit
import Derived.RowKit3
import Derived.Deep.LoopGhost
import Derived.Deep.QuietTactic
import Derived.BigQuiet
import Derived.WideLaws
import Derived.Deep.DeepCutAuto
import Derived.Deep.CutBlock
import Derived.Deep.RegionHeld3
import Derived.Laws.Rows
import Derived.Lib.AppendStr
import Derived.ArgAppend
import Derived.Laws.IdiomCopy
import Derived.OrdersHeld
import Derived.Laws.BitsLemmas
import Derived.RowKit
import Derived.Lib.Hide
import Derived.Laws.CopyOwn
import Derived.RangeFuncRecord
import Derived.RangeFuncBound
import Derived.RangeFuncNested
import Derived.RangeFuncCalls
import Derived.RangeFuncLeaves
import Derived.Shelf.Abstract
import Derived.Shelf.RegionOpen
import Derived.OwnWalkIn
import Derived.TacticsInMore
import Derived.LoopNIn
import Derived.LoopIn
import Derived.Maps.OwnIn
import Derived.Maps.OwnSet
import Derived.Maps.Views
import Derived.Maps.Keyed
import Derived.StringKeys
import Derived.RangeFuncBox
import Derived.BigRegionIn
import Derived.IntWalk
import Derived.Deep.RegionWith
import Derived.Deep.MidRow
set_option linter.unusedVariables false
set_option linter.unusedSimpArgs false
set_option maxHeartbeats 64000000
set_option maxRecDepth 100000
section
namespace Go.Proofs.Ytfplcohjnlbfjaa
open Go.RowKit Go.Proofs.YtfplcohjnlbfjaaW
open PrintWords PrintLast PrintMore
theorem aq {P : Prop} (h : P) : Aside0 P := ⟨h⟩
theorem gS {P : Prop} (h : P := by first | (go_simp; done) | (go_simp; rfl)) : P := h
theorem ao {P : Prop} (h : Aside0 P := by with_reducible assumption) : P := h.out
theorem bH {P : Prop} (h : P := by repeat (first | (with_reducible first | exact HB.out | apply below_alloc | apply pw_below_drewN | apply below_drew1 | refine below_set ?_ ao) | exact HB.out)) : P := h
theorem RU {α : Type} {kd : Kd α} {t : TypeId} {W W' : World} {b : Nat} {ok : Nat → Prop} {v : Value} {xs : List α} (h : Kd.R kd t W b ok v xs)
  (u : Kd.R kd t W b ok v xs → Kd.R kd t W' b ok v xs:=by intro h_;(with_reducible repeat (first|apply Kd.R_alloc|apply Kd.R_drewN|apply Kd.R_drew));exact h_) : Kd.R kd t W' b ok v xs:=u h
theorem KU {W W' : World} {g : Nat} {o : Obj} (h : W.heap[g]? = some o)
  (u : W.heap[g]? = some o → W'.heap[g]? = some o:=by intro h_;(with_reducible repeat (first|refine blk_drewN ?_ _|refine blk_drew ?_|refine blk_alloc ?_ _));exact h_) : W'.heap[g]? = some o:=u h
theorem eA {P : Prop} (h : P := by (try simp only [List.map_toArray, List.map_cons, List.map_nil]); first | done | rfl | (simp only [List.length_drop, List.length_take]; rfl)) : P := h
theorem RF {α : Type} {kd : Kd α} {t : TypeId} {W : World} {b : Nat} {ok : Nat → Prop} {v : Value} {xs : List α} (g i : Nat) (h : Kd.R kd t W b ok v xs) (u : Value) (hok : ∀ k, ok k → k ≠ g := by exact fun _ hk => hk.2) : Kd.R kd t (W.setCell ⟨g, i, none⟩ u) b ok v xs := Kd.R_far (p := ⟨g, i, none⟩) h hok u
theorem aS {P : Prop} (h : P := by first | (with_reducible assumption) | assumption) : P := h
theorem eR {P : Prop} (h : P := by first | rfl | (simp <;> rfl) | (simp [*] <;> rfl)) : P := h
theorem eS {P : Prop} (h : P := by first | rfl | (simp; done) | (simp [*]; done)) : P := h
theorem dR {P : Prop} (h : P := by repeat (first | exact Drawn0.refl _ | apply Drawn0.step)) : P := h
theorem GN {w0 W : World} {g : Nat} (hg : g = W.heap.size) (h : Below w0.heap.size w0 W := by repeat (first | (with_reducible first | exact HB.out | apply below_alloc | apply pw_below_drewN | apply below_drew1 | refine below_set ?_ ao) | exact HB.out)) : w0.heap.size ≤ g := by rw [hg]; exact below_size h
theorem NL {W W' : World} {g k : Nat} {o : Obj} (hg : k = W'.heap.size) (h : Aside0 (W.heap[g]? = some o)) (u : W.heap[g]? = some o → W'.heap[g]? = some o := by intro h_; (with_reducible repeat (first | refine blk_drewN ?_ _ | refine blk_drew ?_ | refine blk_alloc ?_ _)); exact h_) : g ≠ k := by rw [hg]; exact Nat.ne_of_lt (blk_lt (u h.out))
theorem NG {W W' : World} {g k : Nat} {o : Obj} (hg : k = W'.heap.size) (h : Aside0 (W.heap[g]? = some o)) (u : W.heap[g]? = some o → W'.heap[g]? = some o := by intro h_; (with_reducible repeat (first | refine blk_drewN ?_ _ | refine blk_drew ?_ | refine blk_alloc ?_ _)); exact h_) : k ≠ g := (NL hg h u).symm
theorem RN {α : Type} {kd : Kd α} {t : TypeId} {W W' w' : World} {b : Nat} {ok : Nat → Prop} {v : Value} {xs : List α} (h : Aside0 (Kd.R kd t W b ok v xs)) (hb : Below W'.heap.size W' w')
  (u : Kd.R kd t W b ok v xs → Kd.R kd t W' b ok v xs:=by intro h_;(with_reducible repeat (first|apply Kd.R_alloc|apply Kd.R_drewN|apply Kd.R_drew));exact h_) : Aside0 (Kd.R kd t w' b ok v xs):=⟨Kd.R_below (u h.out) hb⟩
theorem KN {W W' w' : World} {g : Nat} {o : Obj} (h : Aside0 (W.heap[g]? = some o)) (hb : Below W'.heap.size W' w')
  (u : W.heap[g]? = some o → W'.heap[g]? = some o:=by intro h_;(with_reducible repeat (first|refine blk_drewN ?_ _|refine blk_drew ?_|refine blk_alloc ?_ _));exact h_) : Aside0 (w'.heap[g]? = some o):=⟨blk_below (u h.out) hb⟩
section
variable {P : Program} {ops : Array Oper} {Q : Exit → Act → World → Prop} {md : Region.Mode} {S : World → Prop} {ds : List Nat}
end
abbrev pG {α β : Type} (A : Option Addr) (l : List α) (c : Nat) (B : Option Addr) (m : List β) (d : Nat) (x y z : ByteArray) : Array Value := #[.slice A l.length c, .slice B m.length d, .string x, .string y, .string z]
abbrev zM : Array Value := #[.string ⟨#[]⟩, .string ⟨#[]⟩, .bool false, .bool false, .int .i64 0, .slice none 0 0]
abbrev zR : Array Value := #[.string ⟨#[]⟩, .string ⟨#[]⟩, .string ⟨#[]⟩]
section
variable {P : Program} {ops : Array Oper} {Q : Exit → Act → World → Prop} {md : Region.Mode} {S : World → Prop} {ds : List Nat}
theorem sP {i : Nat} {N : Option Tmp} {oi : Oper} {v : Value} {fuel : Nat} {l : Array Bool} {a a' : Act} {w : World} (h : wpAnyLast P md ops Q S ds fuel (l.setIfInBounds i true) a' w) (hi : ops[i]? = some oi := by rfl) (hN : oi.dst = N := by rfl)
  (hc : anyB md ops l (l.setIfInBounds i true) i = true:=by kernel_rfl) (hQ : ∀ c a w,Q (.panic c) (a.put oi.dst v) w → Q (.panic c) a w:=by exact fun _ _ _ h => h)
  (hy : Yields P ops oi v a:=by refine Or.inl ⟨by rfl,?_⟩;intro w';go_simp;with_reducible rfl)
  (ha : a.put N v = a':=by simp only [Act.put,List.setIfInBounds_toArray,List.set_cons_zero,List.set_cons_succ,i64_w,i32_w];rfl) : wpAnyLast P md ops Q S ds (fuel + 1) l a w:=pure_ _ hi hN hc hQ hy ha h
theorem sU {i : Nat} {N : Option Tmp} {oi : Oper} {fuel : Nat} {l : Array Bool} {a a' : Act} {w : World} (h : wpAnyLast P md ops Q S ds fuel (l.setIfInBounds i true) a' w) (hi : ops[i]? = some oi := by rfl) (hN : oi.dst = N := by rfl)
  (hc : anyB md ops l (l.setIfInBounds i true) i = true:=by kernel_rfl) (hQ : ∀ c a w,Q (.panic c) (a.put oi.dst undef) w → Q (.panic c) a w:=by exact fun _ _ _ h => h)
  (hy : Yields P ops oi undef a:=by exact Or.inr ⟨by rfl,rfl⟩)
  (ha : a.put N undef = a':=by simp only [Act.put,List.setIfInBounds_toArray,List.set_cons_zero,List.set_cons_succ,i64_w,i32_w];rfl) : wpAnyLast P md ops Q S ds (fuel + 1) l a w:=pure_ _ hi hN hc hQ hy ha h
theorem sT {i : Nat} {N : Option Tmp} {oi : Oper} {v : Value} {fuel : Nat} {l : Array Bool} {a a' : Act} {w : World} (hS : S w) (h : wpAnyLast P md ops Q S ds fuel (l.setIfInBounds i true) a' w) (hi : ops[i]? = some oi := by rfl) (hN : oi.dst = N := by rfl)
  (hc : takeB md ops ds l (l.setIfInBounds i true) i = true:=by kernel_rfl) (hQ : ∀ c a w,Q (.panic c) (a.put oi.dst v) w → Q (.panic c) a w:=by exact fun _ _ _ h => h)
  (hy : YieldsIf P ops S oi v a:=by refine Or.inl ⟨by rfl,?_⟩;intro w' hw';(try dsimp only at hw');(repeat (obtain ⟨_,hw'⟩ : _ ∧ _:=hw'));go_simp;with_reducible rfl)
  (ha : a.put N v = a':=by simp only [Act.put,List.setIfInBounds_toArray,List.set_cons_zero,List.set_cons_succ,i64_w,i32_w];rfl) : wpAnyLast P md ops Q S ds (fuel + 1) l a w:=take_ _ hi hN hc hQ hy hS ha h
theorem sN {fuel : Nat} {l : Array Bool} {a a' : Act} {w : World} (h : wpAnyLast P md ops Q S ds fuel l a' w) (ha : a = a' := by show Act.put _ _ _ = _; simp only [Act.put, List.setIfInBounds_toArray, List.set_cons_zero, List.set_cons_succ, i64_w, i32_w]; rfl) : wpAnyLast P md ops Q S ds fuel l a w := norm_ ha h
theorem sG {oi : Oper} {N : Option Tmp} {a : Act} {w : World} {K : Act → World → Prop} {f : FuncId} {fn : Func} {az : Array Operand} {ts : Array TypeId} (hf : P.funcs[f]? = some fn) (args : Array Value) (h : Calls P f args w fun e w' => ∃ v, e = .returned v ∧ K (a.put N v) w')
  (hname : (fn.name == "runtime.NumGoroutine") = false := by kernel_rfl) (hb : fn.body.isSome = true := by rfl) (hw : Region.wanted oi (yielded ops a.tmps) = true := by rfl) (hN : oi.dst = N := by rfl) (hop : oi.op = .call { callee := .value (.func f), args := az, argTypes := ts } := by rfl)
  (hargs : az.map a.eval = args:=by (try simp only [List.map_toArray,List.map_cons,List.map_nil]);first|done|rfl) : if Region.wanted oi (yielded ops a.tmps) = true then Oper.wp P oi a w K Q else K (a.put N undef) w:=goes_ hf hname hb args hw hN hop hargs h
theorem sO {i : Nat} {N : Option Tmp} {oi : Oper} {fuel : Nat} {l : Array Bool} {a : Act} {w : World}
  (h : ∀ K : Act → World → Prop,Shut (∀ a' w',S w' → (S w' → wpAnyLast P md ops Q S ds fuel (l.setIfInBounds i true) a' w') → K a' w') → if Region.wanted oi (yielded ops a.tmps) = true then Oper.wp P oi a w K Q else K (a.put N undef) w)
  (hi : ops[i]? = some oi:=by rfl) (hN : oi.dst = N:=by rfl) (hc : readyB md ops l (l.setIfInBounds i true) i = true:=by kernel_rfl) (hd : i ∉ ds:=by decide) : wpAnyLast P md ops Q S ds (fuel + 1) l a w:=one_ _ hi hN hc hd h
theorem sX {i : Nat} {N : Option Tmp} {oi : Oper} {fuel : Nat} {l : Array Bool} {a : Act} {w : World}
  (h : ∀ K : Act → World → Prop,Shut (∀ a' w',wpAnyLast P md ops Q S ds fuel (l.setIfInBounds i true) a' w' → K a' w') → if Region.wanted oi (yielded ops a.tmps) = true then Oper.wp P oi a w K Q else K (a.put N undef) w)
  (hi : ops[i]? = some oi:=by rfl) (hN : oi.dst = N:=by rfl) (hc : readyB md ops l (l.setIfInBounds i true) i = true:=by kernel_rfl) (hd : i ∈ ds:=by decide) : wpAnyLast P md ops Q S ds (fuel + 1) l a w:=last_ _ hi hN hc hd h
theorem sW {i j : Nat} {Ni Nj : Option Tmp} {oi oj : Oper} {fuel : Nat} {l : Array Bool} {a : Act} {w : World}
  (h1 : ∀ K : Act → World → Prop,Shut (∀ a' w',S w' → (S w' → wpAnyLast P md ops Q S ds fuel (l.setIfInBounds i true) a' w') → K a' w') → if Region.wanted oi (yielded ops a.tmps) = true then Oper.wp P oi a w K Q else K (a.put Ni undef) w)
  (h2 : ∀ K : Act → World → Prop,Shut (∀ a' w',S w' → (S w' → wpAnyLast P md ops Q S ds fuel (l.setIfInBounds j true) a' w') → K a' w') → if Region.wanted oj (yielded ops a.tmps) = true then Oper.wp P oj a w K Q else K (a.put Nj undef) w)
  (hi : ops[i]? = some oi:=by rfl) (hj : ops[j]? = some oj:=by rfl) (hNi : oi.dst = Ni:=by rfl) (hNj : oj.dst = Nj:=by rfl)
  (hc : (Region.ready md ops l == [i,j] && l.setIfInBounds i true == l.setIfInBounds i true && l.setIfInBounds j true == l.setIfInBounds j true) = true:=by kernel_rfl) (hdi : i ∉ ds:=by decide) (hdj : j ∉ ds:=by decide) : wpAnyLast P md ops Q S ds (fuel + 1) l a w:=two_ _ _ hi hj hNi hNj hc hdi hdj h1 h2
theorem sC {w w' : World} {a : Addr} {v : Value} (hb : Below w.heap.size w w') (h : w.cell? a = some v) : w'.cell? a = some v := (hb.cell (World.block_lt_of_cell? _ _ h)).trans h
end
end Go.Proofs.Ytfplcohjnlbfjaa
end

section
namespace Go.Proofs.Ytfplcohjnlbfjaa.Hand
theorem seat_mayEnter : Try.prog.mayEnter = true := by kernel_rfl
theorem seat_lifts : Try.prog.liftsFinal = false := by kernel_rfl
theorem seat_make : Try.prog.make = some .cut := by kernel_rfl
end Go.Proofs.Ytfplcohjnlbfjaa.Hand
end

section
namespace Go.Proofs.Ytfplcohjnlbfjaa.Hand
open Go.RowKit Go.Proofs.YtfplcohjnlbfjaaW
open PrintWords PrintLast PrintMore
structure S97 where
 f0 : Int
 f1 : ByteArray
def z97 : S97 := ⟨(0 : Int), (⟨#[]⟩ : ByteArray)⟩
def k97 : Kd S97 := Kd.iso (Kd.pair (Kd.int .i64) Kd.string) (fun x : S97 => (x.f0, x.f1))
theorem k97_open {w : World} {x : S97} {cs : List Value} (h : k97.K w x cs) : cs = [.int .i64 x.f0, .string x.f1] := by
 obtain ⟨_,_,rfl,rfl,rfl⟩:=h
 exact rfl
theorem k97_mk (w : World) (x : S97)  : k97.K w x [.int .i64 x.f0, .string x.f1] := ⟨[.int .i64 x.f0], [.string x.f1], rfl, rfl, rfl⟩
theorem k97_mkM (w : World) (base : Nat) (ok : Nat → Prop) (x : S97)  : k97.M w base ok x [.int .i64 x.f0, .string x.f1] := ⟨[.int .i64 x.f0], [.string x.f1], rfl, rfl, rfl⟩
structure S103 where
 f0 : ByteArray
 f1 : S97
 f2 : Bool
def z103 : S103 := ⟨(⟨#[]⟩ : ByteArray), z97, false⟩
def k103 : Kd S103 := Kd.iso (Kd.pair Kd.string (Kd.pair k97 Kd.bool)) (fun x : S103 => (x.f0, x.f1, x.f2))
theorem k103_open {w : World} {x : S103} {cs : List Value} (h : k103.K w x cs) : cs = [.string x.f0, .int .i64 x.f1.f0, .string x.f1.f1, .bool x.f2] := by
 obtain ⟨_,_,rfl,rfl,⟨_,_,rfl,s1,rfl⟩⟩:=h
 obtain rfl:=k97_open s1
 exact rfl
theorem k103_mk (w : World) (x : S103)  : k103.K w x [.string x.f0, .int .i64 x.f1.f0, .string x.f1.f1, .bool x.f2] := ⟨[.string x.f0], [.int .i64 x.f1.f0, .string x.f1.f1, .bool x.f2], rfl, rfl, ⟨[.int .i64 x.f1.f0, .string x.f1.f1], [.bool x.f2], rfl, (k97_mk w x.f1 ), rfl⟩⟩
def rd_T103 (xs : List S103) (i : Int) : S103 := xs.getD i.toNat z103
theorem at_T103 {w : World} {A : Option Addr} {n : Nat} {xs : List S103} (h : Kd.C k103 w A n xs) (i : Int) (h0 : 0 ≤ i) (h1 : i < n) : ∃ ad , A = some ad ∧ w.cell? (ad.add (i.toNat * 4)) = some (.string (rd_T103 xs i).f0) ∧ w.cell? ⟨(ad.add (i.toNat * 4)).block, (ad.add (i.toNat * 4)).off + 1, none⟩ = some (.int .i64 (rd_T103 xs i).f1.f0) ∧ w.cell? ⟨(ad.add (i.toNat * 4)).block, (ad.add (i.toNat * 4)).off + 2, none⟩ = some (.string (rd_T103 xs i).f1.f1) ∧ w.cell? ⟨(ad.add (i.toNat * 4)).block, (ad.add (i.toNat * 4)).off + 3, none⟩ = some (.bool (rd_T103 xs i).f2) := by
 obtain ⟨ad,c,e,_,hK,hc0⟩:=Kd.C_get h z103 i h0 h1
 have hc : ∀ j u,c[j]? = some u → w.cell? (ad.add (i.toNat * 4 + j)) = some u:=hc0
 obtain rfl:=k103_open hK
 exact ⟨ad,e,hc 0 _ rfl,by rw [← add_field _ _ 1 (by omega)];exact hc 1 _ rfl,by rw [← add_field _ _ 2 (by omega)];exact hc 2 _ rfl,by rw [← add_field _ _ 3 (by omega)];exact hc 3 _ rfl⟩
structure S74 where
 f0 : Int
 f1 : Int
 f2 : Int
 f3 : Int
 f4 : Int
 f5 : ByteArray
 f6 : ByteArray
 f7 : ByteArray
 f8 : (List Int)
def z74 : S74 := ⟨(0 : Int), (0 : Int), (0 : Int), (0 : Int), (0 : Int), (⟨#[]⟩ : ByteArray), (⟨#[]⟩ : ByteArray), (⟨#[]⟩ : ByteArray), ([] : List Int)⟩
def k74 : Kd S74 := Kd.iso (Kd.pair (Kd.int .i64) (Kd.pair (Kd.int .i64) (Kd.pair (Kd.int .i64) (Kd.pair (Kd.int .i64) (Kd.pair (Kd.int .i64) (Kd.pair Kd.string (Kd.pair Kd.string (Kd.pair Kd.string (Kd.slice 3 (Kd.int .i64)))))))))) (fun x : S74 => (x.f0, x.f1, x.f2, x.f3, x.f4, x.f5, x.f6, x.f7, x.f8))
theorem k74_open {w : World} {x : S74} {cs : List Value} (h : k74.K w x cs) : ∃ A8 c8, cs = [.int .i64 x.f0, .int .i64 x.f1, .int .i64 x.f2, .int .i64 x.f3, .int .i64 x.f4, .string x.f5, .string x.f6, .string x.f7, .slice A8 x.f8.length c8] ∧ x.f8.length ≤ c8 ∧ (Kd.int .i64).C w A8 x.f8.length x.f8 := by
 obtain ⟨_,_,rfl,rfl,⟨_,_,rfl,rfl,⟨_,_,rfl,rfl,⟨_,_,rfl,rfl,⟨_,_,rfl,rfl,⟨_,_,rfl,rfl,⟨_,_,rfl,rfl,⟨_,_,rfl,rfl,⟨A8,c8,rfl,l8,g8⟩⟩⟩⟩⟩⟩⟩⟩⟩:=h
 exact ⟨A8,c8,rfl,l8,g8⟩
theorem k74_mk (w : World) (x : S74) {A8 : Option Addr} {c8 : Nat} (l8 : x.f8.length ≤ c8) (g8 : (Kd.int .i64).C w A8 x.f8.length x.f8) : k74.K w x [.int .i64 x.f0, .int .i64 x.f1, .int .i64 x.f2, .int .i64 x.f3, .int .i64 x.f4, .string x.f5, .string x.f6, .string x.f7, .slice A8 x.f8.length c8] := ⟨[.int .i64 x.f0], [.int .i64 x.f1, .int .i64 x.f2, .int .i64 x.f3, .int .i64 x.f4, .string x.f5, .string x.f6, .string x.f7, .slice A8 x.f8.length c8], rfl, rfl, ⟨[.int .i64 x.f1], [.int .i64 x.f2, .int .i64 x.f3, .int .i64 x.f4, .string x.f5, .string x.f6, .string x.f7, .slice A8 x.f8.length c8], rfl, rfl, ⟨[.int .i64 x.f2], [.int .i64 x.f3, .int .i64 x.f4, .string x.f5, .string x.f6, .string x.f7, .slice A8 x.f8.length c8], rfl, rfl, ⟨[.int .i64 x.f3], [.int .i64 x.f4, .string x.f5, .string x.f6, .string x.f7, .slice A8 x.f8.length c8], rfl, rfl, ⟨[.int .i64 x.f4], [.string x.f5, .string x.f6, .string x.f7, .slice A8 x.f8.length c8], rfl, rfl, ⟨[.string x.f5], [.string x.f6, .string x.f7, .slice A8 x.f8.length c8], rfl, rfl, ⟨[.string x.f6], [.string x.f7, .slice A8 x.f8.length c8], rfl, rfl, ⟨[.string x.f7], [.slice A8 x.f8.length c8], rfl, rfl, ⟨A8, c8, rfl, l8, g8⟩⟩⟩⟩⟩⟩⟩⟩⟩
def rd_T74 (xs : List S74) (i : Int) : S74 := xs.getD i.toNat z74
theorem at_T74 {w : World} {A : Option Addr} {n : Nat} {xs : List S74} (h : Kd.C k74 w A n xs) (i : Int) (h0 : 0 ≤ i) (h1 : i < n) : ∃ ad A8 c8, A = some ad ∧ w.cell? (ad.add (i.toNat * 9)) = some (.int .i64 (rd_T74 xs i).f0) ∧ w.cell? ⟨(ad.add (i.toNat * 9)).block, (ad.add (i.toNat * 9)).off + 1, none⟩ = some (.int .i64 (rd_T74 xs i).f1) ∧ w.cell? ⟨(ad.add (i.toNat * 9)).block, (ad.add (i.toNat * 9)).off + 2, none⟩ = some (.int .i64 (rd_T74 xs i).f2) ∧ w.cell? ⟨(ad.add (i.toNat * 9)).block, (ad.add (i.toNat * 9)).off + 3, none⟩ = some (.int .i64 (rd_T74 xs i).f3) ∧ w.cell? ⟨(ad.add (i.toNat * 9)).block, (ad.add (i.toNat * 9)).off + 4, none⟩ = some (.int .i64 (rd_T74 xs i).f4) ∧ w.cell? ⟨(ad.add (i.toNat * 9)).block, (ad.add (i.toNat * 9)).off + 5, none⟩ = some (.string (rd_T74 xs i).f5) ∧ w.cell? ⟨(ad.add (i.toNat * 9)).block, (ad.add (i.toNat * 9)).off + 6, none⟩ = some (.string (rd_T74 xs i).f6) ∧ w.cell? ⟨(ad.add (i.toNat * 9)).block, (ad.add (i.toNat * 9)).off + 7, none⟩ = some (.string (rd_T74 xs i).f7) ∧ w.cell? ⟨(ad.add (i.toNat * 9)).block, (ad.add (i.toNat * 9)).off + 8, none⟩ = some (.slice A8 (rd_T74 xs i).f8.length c8) ∧ (rd_T74 xs i).f8.length ≤ c8 ∧ (Kd.int .i64).C w A8 (rd_T74 xs i).f8.length (rd_T74 xs i).f8 := by
 obtain ⟨ad,c,e,_,hK,hc0⟩:=Kd.C_get h z74 i h0 h1
 have hc : ∀ j u,c[j]? = some u → w.cell? (ad.add (i.toNat * 9 + j)) = some u:=hc0
 obtain ⟨A8,c8,rfl,l8,g8⟩:=k74_open hK
 exact ⟨ad,A8,c8,e,hc 0 _ rfl,by rw [← add_field _ _ 1 (by omega)];exact hc 1 _ rfl,by rw [← add_field _ _ 2 (by omega)];exact hc 2 _ rfl,by rw [← add_field _ _ 3 (by omega)];exact hc 3 _ rfl,by rw [← add_field _ _ 4 (by omega)];exact hc 4 _ rfl,by rw [← add_field _ _ 5 (by omega)];exact hc 5 _ rfl,by rw [← add_field _ _ 6 (by omega)];exact hc 6 _ rfl,by rw [← add_field _ _ 7 (by omega)];exact hc 7 _ rfl,by rw [← add_field _ _ 8 (by omega)];exact hc 8 _ rfl,l8,g8⟩
structure S37 where
 f0 : ByteArray
 f1 : ByteArray
 f2 : Bool
 f3 : Bool
 f4 : Int
 f5 : (List S74)
def z37 : S37 := ⟨(⟨#[]⟩ : ByteArray), (⟨#[]⟩ : ByteArray), false, false, (0 : Int), ([] : List S74)⟩
def k37 : Kd S37 := Kd.iso (Kd.pair Kd.string (Kd.pair Kd.string (Kd.pair Kd.bool (Kd.pair Kd.bool (Kd.pair (Kd.int .i64) (Kd.slice 74 k74)))))) (fun x : S37 => (x.f0, x.f1, x.f2, x.f3, x.f4, x.f5))
theorem k37_open {w : World} {x : S37} {cs : List Value} (h : k37.K w x cs) : ∃ A5 c5, cs = [.string x.f0, .string x.f1, .bool x.f2, .bool x.f3, .int .i64 x.f4, .slice A5 x.f5.length c5] ∧ x.f5.length ≤ c5 ∧ k74.C w A5 x.f5.length x.f5 := by
 obtain ⟨_,_,rfl,rfl,⟨_,_,rfl,rfl,⟨_,_,rfl,rfl,⟨_,_,rfl,rfl,⟨_,_,rfl,rfl,⟨A5,c5,rfl,l5,g5⟩⟩⟩⟩⟩⟩:=h
 exact ⟨A5,c5,rfl,l5,g5⟩
theorem k37_mk (w : World) (x : S37) {A5 : Option Addr} {c5 : Nat} (l5 : x.f5.length ≤ c5) (g5 : k74.C w A5 x.f5.length x.f5) : k37.K w x [.string x.f0, .string x.f1, .bool x.f2, .bool x.f3, .int .i64 x.f4, .slice A5 x.f5.length c5] := ⟨[.string x.f0], [.string x.f1, .bool x.f2, .bool x.f3, .int .i64 x.f4, .slice A5 x.f5.length c5], rfl, rfl, ⟨[.string x.f1], [.bool x.f2, .bool x.f3, .int .i64 x.f4, .slice A5 x.f5.length c5], rfl, rfl, ⟨[.bool x.f2], [.bool x.f3, .int .i64 x.f4, .slice A5 x.f5.length c5], rfl, rfl, ⟨[.bool x.f3], [.int .i64 x.f4, .slice A5 x.f5.length c5], rfl, rfl, ⟨[.int .i64 x.f4], [.slice A5 x.f5.length c5], rfl, rfl, ⟨A5, c5, rfl, l5, g5⟩⟩⟩⟩⟩⟩
def rd_T37 (xs : List S37) (i : Int) : S37 := xs.getD i.toNat z37
theorem at_T37 {w : World} {A : Option Addr} {n : Nat} {xs : List S37} (h : Kd.C k37 w A n xs) (i : Int) (h0 : 0 ≤ i) (h1 : i < n) : ∃ ad A5 c5, A = some ad ∧ w.cell? (ad.add (i.toNat * 6)) = some (.string (rd_T37 xs i).f0) ∧ w.cell? ⟨(ad.add (i.toNat * 6)).block, (ad.add (i.toNat * 6)).off + 1, none⟩ = some (.string (rd_T37 xs i).f1) ∧ w.cell? ⟨(ad.add (i.toNat * 6)).block, (ad.add (i.toNat * 6)).off + 2, none⟩ = some (.bool (rd_T37 xs i).f2) ∧ w.cell? ⟨(ad.add (i.toNat * 6)).block, (ad.add (i.toNat * 6)).off + 3, none⟩ = some (.bool (rd_T37 xs i).f3) ∧ w.cell? ⟨(ad.add (i.toNat * 6)).block, (ad.add (i.toNat * 6)).off + 4, none⟩ = some (.int .i64 (rd_T37 xs i).f4) ∧ w.cell? ⟨(ad.add (i.toNat * 6)).block, (ad.add (i.toNat * 6)).off + 5, none⟩ = some (.slice A5 (rd_T37 xs i).f5.length c5) ∧ (rd_T37 xs i).f5.length ≤ c5 ∧ k74.C w A5 (rd_T37 xs i).f5.length (rd_T37 xs i).f5 := by
 obtain ⟨ad,c,e,_,hK,hc0⟩:=Kd.C_get h z37 i h0 h1
 have hc : ∀ j u,c[j]? = some u → w.cell? (ad.add (i.toNat * 6 + j)) = some u:=hc0
 obtain ⟨A5,c5,rfl,l5,g5⟩:=k37_open hK
 exact ⟨ad,A5,c5,e,hc 0 _ rfl,by rw [← add_field _ _ 1 (by omega)];exact hc 1 _ rfl,by rw [← add_field _ _ 2 (by omega)];exact hc 2 _ rfl,by rw [← add_field _ _ 3 (by omega)];exact hc 3 _ rfl,by rw [← add_field _ _ 4 (by omega)];exact hc 4 _ rfl,by rw [← add_field _ _ 5 (by omega)];exact hc 5 _ rfl,l5,g5⟩
structure S33 where
 f0 : ByteArray
 f1 : ByteArray
 f2 : Bool
 f3 : Bool
 f4 : (List ByteArray)
 f5 : (List S103)
 f6 : (List S37)
def z33 : S33 := ⟨(⟨#[]⟩ : ByteArray), (⟨#[]⟩ : ByteArray), false, false, ([] : List ByteArray), ([] : List S103), ([] : List S37)⟩
def k33 : Kd S33 := Kd.iso (Kd.pair Kd.string (Kd.pair Kd.string (Kd.pair Kd.bool (Kd.pair Kd.bool (Kd.pair (Kd.slice 9 Kd.string) (Kd.pair (Kd.slice 103 k103) (Kd.slice 37 k37))))))) (fun x : S33 => (x.f0, x.f1, x.f2, x.f3, x.f4, x.f5, x.f6))
theorem k33_open {w : World} {x : S33} {cs : List Value} (h : k33.K w x cs) : ∃ A4 c4 A5 c5 A6 c6, cs = [.string x.f0, .string x.f1, .bool x.f2, .bool x.f3, .slice A4 x.f4.length c4, .slice A5 x.f5.length c5, .slice A6 x.f6.length c6] ∧ x.f4.length ≤ c4 ∧ Kd.string.C w A4 x.f4.length x.f4 ∧ x.f5.length ≤ c5 ∧ k103.C w A5 x.f5.length x.f5 ∧ x.f6.length ≤ c6 ∧ k37.C w A6 x.f6.length x.f6 := by
 obtain ⟨_,_,rfl,rfl,⟨_,_,rfl,rfl,⟨_,_,rfl,rfl,⟨_,_,rfl,rfl,⟨_,_,rfl,⟨A4,c4,rfl,l4,g4⟩,⟨_,_,rfl,⟨A5,c5,rfl,l5,g5⟩,⟨A6,c6,rfl,l6,g6⟩⟩⟩⟩⟩⟩⟩:=h
 exact ⟨A4,c4,A5,c5,A6,c6,rfl,l4,g4,l5,g5,l6,g6⟩
theorem k33_mk (w : World) (x : S33) {A4 : Option Addr} {c4 : Nat} (l4 : x.f4.length ≤ c4) (g4 : Kd.string.C w A4 x.f4.length x.f4) {A5 : Option Addr} {c5 : Nat} (l5 : x.f5.length ≤ c5) (g5 : k103.C w A5 x.f5.length x.f5) {A6 : Option Addr} {c6 : Nat} (l6 : x.f6.length ≤ c6) (g6 : k37.C w A6 x.f6.length x.f6) : k33.K w x [.string x.f0, .string x.f1, .bool x.f2, .bool x.f3, .slice A4 x.f4.length c4, .slice A5 x.f5.length c5, .slice A6 x.f6.length c6] := ⟨[.string x.f0], [.string x.f1, .bool x.f2, .bool x.f3, .slice A4 x.f4.length c4, .slice A5 x.f5.length c5, .slice A6 x.f6.length c6], rfl, rfl, ⟨[.string x.f1], [.bool x.f2, .bool x.f3, .slice A4 x.f4.length c4, .slice A5 x.f5.length c5, .slice A6 x.f6.length c6], rfl, rfl, ⟨[.bool x.f2], [.bool x.f3, .slice A4 x.f4.length c4, .slice A5 x.f5.length c5, .slice A6 x.f6.length c6], rfl, rfl, ⟨[.bool x.f3], [.slice A4 x.f4.length c4, .slice A5 x.f5.length c5, .slice A6 x.f6.length c6], rfl, rfl, ⟨[.slice A4 x.f4.length c4], [.slice A5 x.f5.length c5, .slice A6 x.f6.length c6], rfl, ⟨A4, c4, rfl, l4, g4⟩, ⟨[.slice A5 x.f5.length c5], [.slice A6 x.f6.length c6], rfl, ⟨A5, c5, rfl, l5, g5⟩, ⟨A6, c6, rfl, l6, g6⟩⟩⟩⟩⟩⟩⟩
def rd_T33 (xs : List S33) (i : Int) : S33 := xs.getD i.toNat z33
theorem at_T33 {w : World} {A : Option Addr} {n : Nat} {xs : List S33} (h : Kd.C k33 w A n xs) (i : Int) (h0 : 0 ≤ i) (h1 : i < n) : ∃ ad A4 c4 A5 c5 A6 c6, A = some ad ∧ w.cell? (ad.add (i.toNat * 7)) = some (.string (rd_T33 xs i).f0) ∧ w.cell? ⟨(ad.add (i.toNat * 7)).block, (ad.add (i.toNat * 7)).off + 1, none⟩ = some (.string (rd_T33 xs i).f1) ∧ w.cell? ⟨(ad.add (i.toNat * 7)).block, (ad.add (i.toNat * 7)).off + 2, none⟩ = some (.bool (rd_T33 xs i).f2) ∧ w.cell? ⟨(ad.add (i.toNat * 7)).block, (ad.add (i.toNat * 7)).off + 3, none⟩ = some (.bool (rd_T33 xs i).f3) ∧ w.cell? ⟨(ad.add (i.toNat * 7)).block, (ad.add (i.toNat * 7)).off + 4, none⟩ = some (.slice A4 (rd_T33 xs i).f4.length c4) ∧ w.cell? ⟨(ad.add (i.toNat * 7)).block, (ad.add (i.toNat * 7)).off + 5, none⟩ = some (.slice A5 (rd_T33 xs i).f5.length c5) ∧ w.cell? ⟨(ad.add (i.toNat * 7)).block, (ad.add (i.toNat * 7)).off + 6, none⟩ = some (.slice A6 (rd_T33 xs i).f6.length c6) ∧ (rd_T33 xs i).f4.length ≤ c4 ∧ Kd.string.C w A4 (rd_T33 xs i).f4.length (rd_T33 xs i).f4 ∧ (rd_T33 xs i).f5.length ≤ c5 ∧ k103.C w A5 (rd_T33 xs i).f5.length (rd_T33 xs i).f5 ∧ (rd_T33 xs i).f6.length ≤ c6 ∧ k37.C w A6 (rd_T33 xs i).f6.length (rd_T33 xs i).f6 := by
 obtain ⟨ad,c,e,_,hK,hc0⟩:=Kd.C_get h z33 i h0 h1
 have hc : ∀ j u,c[j]? = some u → w.cell? (ad.add (i.toNat * 7 + j)) = some u:=hc0
 obtain ⟨A4,c4,A5,c5,A6,c6,rfl,l4,g4,l5,g5,l6,g6⟩:=k33_open hK
 exact ⟨ad,A4,c4,A5,c5,A6,c6,e,hc 0 _ rfl,by rw [← add_field _ _ 1 (by omega)];exact hc 1 _ rfl,by rw [← add_field _ _ 2 (by omega)];exact hc 2 _ rfl,by rw [← add_field _ _ 3 (by omega)];exact hc 3 _ rfl,by rw [← add_field _ _ 4 (by omega)];exact hc 4 _ rfl,by rw [← add_field _ _ 5 (by omega)];exact hc 5 _ rfl,by rw [← add_field _ _ 6 (by omega)];exact hc 6 _ rfl,l4,g4,l5,g5,l6,g6⟩
structure S25 where
 f0 : ByteArray
 f1 : ByteArray
 f2 : ByteArray
def z25 : S25 := ⟨(⟨#[]⟩ : ByteArray), (⟨#[]⟩ : ByteArray), (⟨#[]⟩ : ByteArray)⟩
def k25 : Kd S25 := Kd.iso (Kd.pair Kd.string (Kd.pair Kd.string Kd.string)) (fun x : S25 => (x.f0, x.f1, x.f2))
theorem k25_open {w : World} {x : S25} {cs : List Value} (h : k25.K w x cs) : cs = [.string x.f0, .string x.f1, .string x.f2] := by
 obtain ⟨_,_,rfl,rfl,⟨_,_,rfl,rfl,rfl⟩⟩:=h
 exact rfl
theorem k25_mkM (w : World) (base : Nat) (ok : Nat → Prop) (x : S25)  : k25.M w base ok x [.string x.f0, .string x.f1, .string x.f2] := ⟨[.string x.f0], [.string x.f1, .string x.f2], rfl, rfl, ⟨[.string x.f1], [.string x.f2], rfl, rfl, rfl⟩⟩
structure S44 where
 f0 : ByteArray
 f1 : ByteArray
def z44 : S44 := ⟨(⟨#[]⟩ : ByteArray), (⟨#[]⟩ : ByteArray)⟩
def k44 : Kd S44 := Kd.iso (Kd.pair Kd.string Kd.string) (fun x : S44 => (x.f0, x.f1))
theorem k44_open {w : World} {x : S44} {cs : List Value} (h : k44.K w x cs) : cs = [.string x.f0, .string x.f1] := by
 obtain ⟨_,_,rfl,rfl,rfl⟩:=h
 exact rfl
theorem k44_mkM (w : World) (base : Nat) (ok : Nat → Prop) (x : S44)  : k44.M w base ok x [.string x.f0, .string x.f1] := ⟨[.string x.f0], [.string x.f1], rfl, rfl, rfl⟩
structure S46 where
 f0 : S25
 f1 : Int
 f2 : ByteArray
def z46 : S46 := ⟨z25, (0 : Int), (⟨#[]⟩ : ByteArray)⟩
def k46 : Kd S46 := Kd.iso (Kd.pair k25 (Kd.pair (Kd.int .i64) Kd.string)) (fun x : S46 => (x.f0, x.f1, x.f2))
theorem k46_open {w : World} {x : S46} {cs : List Value} (h : k46.K w x cs) : cs = [.string x.f0.f0, .string x.f0.f1, .string x.f0.f2, .int .i64 x.f1, .string x.f2] := by
 obtain ⟨_,_,rfl,s0,⟨_,_,rfl,rfl,rfl⟩⟩:=h
 obtain rfl:=k25_open s0
 exact rfl
theorem k46_mkM (w : World) (base : Nat) (ok : Nat → Prop) (x : S46)  : k46.M w base ok x [.string x.f0.f0, .string x.f0.f1, .string x.f0.f2, .int .i64 x.f1, .string x.f2] := ⟨[.string x.f0.f0, .string x.f0.f1, .string x.f0.f2], [.int .i64 x.f1, .string x.f2], rfl, (k25_mkM w base ok x.f0 ), ⟨[.int .i64 x.f1], [.string x.f2], rfl, rfl, rfl⟩⟩
structure S50 where
 f0 : Int
 f1 : S25
 f2 : Int
 f3 : S44
 f4 : S46
def z50 : S50 := ⟨(0 : Int), z25, (0 : Int), z44, z46⟩
def k50 : Kd S50 := Kd.iso (Kd.pair (Kd.int .i64) (Kd.pair k25 (Kd.pair (Kd.int .i64) (Kd.pair k44 k46)))) (fun x : S50 => (x.f0, x.f1, x.f2, x.f3, x.f4))
theorem k50_open {w : World} {x : S50} {cs : List Value} (h : k50.K w x cs) : cs = [.int .i64 x.f0, .string x.f1.f0, .string x.f1.f1, .string x.f1.f2, .int .i64 x.f2, .string x.f3.f0, .string x.f3.f1, .string x.f4.f0.f0, .string x.f4.f0.f1, .string x.f4.f0.f2, .int .i64 x.f4.f1, .string x.f4.f2] := by
 obtain ⟨_,_,rfl,rfl,⟨_,_,rfl,s1,⟨_,_,rfl,rfl,⟨_,_,rfl,s5,s7⟩⟩⟩⟩:=h
 obtain rfl:=k25_open s1
 obtain rfl:=k44_open s5
 obtain rfl:=k46_open s7
 exact rfl
theorem k50_mkM (w : World) (base : Nat) (ok : Nat → Prop) (x : S50)  : k50.M w base ok x [.int .i64 x.f0, .string x.f1.f0, .string x.f1.f1, .string x.f1.f2, .int .i64 x.f2, .string x.f3.f0, .string x.f3.f1, .string x.f4.f0.f0, .string x.f4.f0.f1, .string x.f4.f0.f2, .int .i64 x.f4.f1, .string x.f4.f2] := ⟨[.int .i64 x.f0], [.string x.f1.f0, .string x.f1.f1, .string x.f1.f2, .int .i64 x.f2, .string x.f3.f0, .string x.f3.f1, .string x.f4.f0.f0, .string x.f4.f0.f1, .string x.f4.f0.f2, .int .i64 x.f4.f1, .string x.f4.f2], rfl, rfl, ⟨[.string x.f1.f0, .string x.f1.f1, .string x.f1.f2], [.int .i64 x.f2, .string x.f3.f0, .string x.f3.f1, .string x.f4.f0.f0, .string x.f4.f0.f1, .string x.f4.f0.f2, .int .i64 x.f4.f1, .string x.f4.f2], rfl, (k25_mkM w base ok x.f1 ), ⟨[.int .i64 x.f2], [.string x.f3.f0, .string x.f3.f1, .string x.f4.f0.f0, .string x.f4.f0.f1, .string x.f4.f0.f2, .int .i64 x.f4.f1, .string x.f4.f2], rfl, rfl, ⟨[.string x.f3.f0, .string x.f3.f1], [.string x.f4.f0.f0, .string x.f4.f0.f1, .string x.f4.f0.f2, .int .i64 x.f4.f1, .string x.f4.f2], rfl, (k44_mkM w base ok x.f3 ), (k46_mkM w base ok x.f4 )⟩⟩⟩⟩
structure S60 where
 f0 : Int
 f1 : Int
 f2 : S50
 f3 : S50
 f4 : S46
 f5 : S44
 f6 : ByteArray
 f7 : S25
 f8 : (List Int)
def z60 : S60 := ⟨(0 : Int), (0 : Int), z50, z50, z46, z44, (⟨#[]⟩ : ByteArray), z25, ([] : List Int)⟩
def k60 : Kd S60 := Kd.iso (Kd.pair (Kd.int .i64) (Kd.pair (Kd.int .i64) (Kd.pair k50 (Kd.pair k50 (Kd.pair k46 (Kd.pair k44 (Kd.pair Kd.string (Kd.pair k25 (Kd.slice 3 (Kd.int .i64)))))))))) (fun x : S60 => (x.f0, x.f1, x.f2, x.f3, x.f4, x.f5, x.f6, x.f7, x.f8))
theorem k60_open {w : World} {x : S60} {cs : List Value} (h : k60.K w x cs) : ∃ A37 c37, cs = [.int .i64 x.f0, .int .i64 x.f1, .int .i64 x.f2.f0, .string x.f2.f1.f0, .string x.f2.f1.f1, .string x.f2.f1.f2, .int .i64 x.f2.f2, .string x.f2.f3.f0, .string x.f2.f3.f1, .string x.f2.f4.f0.f0, .string x.f2.f4.f0.f1, .string x.f2.f4.f0.f2, .int .i64 x.f2.f4.f1, .string x.f2.f4.f2, .int .i64 x.f3.f0, .string x.f3.f1.f0, .string x.f3.f1.f1, .string x.f3.f1.f2, .int .i64 x.f3.f2, .string x.f3.f3.f0, .string x.f3.f3.f1, .string x.f3.f4.f0.f0, .string x.f3.f4.f0.f1, .string x.f3.f4.f0.f2, .int .i64 x.f3.f4.f1, .string x.f3.f4.f2, .string x.f4.f0.f0, .string x.f4.f0.f1, .string x.f4.f0.f2, .int .i64 x.f4.f1, .string x.f4.f2, .string x.f5.f0, .string x.f5.f1, .string x.f6, .string x.f7.f0, .string x.f7.f1, .string x.f7.f2, .slice A37 x.f8.length c37] ∧ x.f8.length ≤ c37 ∧ (Kd.int .i64).C w A37 x.f8.length x.f8 := by
 obtain ⟨_,_,rfl,rfl,⟨_,_,rfl,rfl,⟨_,_,rfl,s2,⟨_,_,rfl,s14,⟨_,_,rfl,s26,⟨_,_,rfl,s31,⟨_,_,rfl,rfl,⟨_,_,rfl,s34,⟨A37,c37,rfl,l37,g37⟩⟩⟩⟩⟩⟩⟩⟩⟩:=h
 obtain rfl:=k50_open s2
 obtain rfl:=k50_open s14
 obtain rfl:=k46_open s26
 obtain rfl:=k44_open s31
 obtain rfl:=k25_open s34
 exact ⟨A37,c37,rfl,l37,g37⟩
theorem k60_mkM (w : World) (base : Nat) (ok : Nat → Prop) (x : S60) {v37 : Value} (g37 : (Kd.int .i64).R 3 w base ok v37 x.f8) : k60.M w base ok x [.int .i64 x.f0, .int .i64 x.f1, .int .i64 x.f2.f0, .string x.f2.f1.f0, .string x.f2.f1.f1, .string x.f2.f1.f2, .int .i64 x.f2.f2, .string x.f2.f3.f0, .string x.f2.f3.f1, .string x.f2.f4.f0.f0, .string x.f2.f4.f0.f1, .string x.f2.f4.f0.f2, .int .i64 x.f2.f4.f1, .string x.f2.f4.f2, .int .i64 x.f3.f0, .string x.f3.f1.f0, .string x.f3.f1.f1, .string x.f3.f1.f2, .int .i64 x.f3.f2, .string x.f3.f3.f0, .string x.f3.f3.f1, .string x.f3.f4.f0.f0, .string x.f3.f4.f0.f1, .string x.f3.f4.f0.f2, .int .i64 x.f3.f4.f1, .string x.f3.f4.f2, .string x.f4.f0.f0, .string x.f4.f0.f1, .string x.f4.f0.f2, .int .i64 x.f4.f1, .string x.f4.f2, .string x.f5.f0, .string x.f5.f1, .string x.f6, .string x.f7.f0, .string x.f7.f1, .string x.f7.f2, v37] := ⟨[.int .i64 x.f0], [.int .i64 x.f1, .int .i64 x.f2.f0, .string x.f2.f1.f0, .string x.f2.f1.f1, .string x.f2.f1.f2, .int .i64 x.f2.f2, .string x.f2.f3.f0, .string x.f2.f3.f1, .string x.f2.f4.f0.f0, .string x.f2.f4.f0.f1, .string x.f2.f4.f0.f2, .int .i64 x.f2.f4.f1, .string x.f2.f4.f2, .int .i64 x.f3.f0, .string x.f3.f1.f0, .string x.f3.f1.f1, .string x.f3.f1.f2, .int .i64 x.f3.f2, .string x.f3.f3.f0, .string x.f3.f3.f1, .string x.f3.f4.f0.f0, .string x.f3.f4.f0.f1, .string x.f3.f4.f0.f2, .int .i64 x.f3.f4.f1, .string x.f3.f4.f2, .string x.f4.f0.f0, .string x.f4.f0.f1, .string x.f4.f0.f2, .int .i64 x.f4.f1, .string x.f4.f2, .string x.f5.f0, .string x.f5.f1, .string x.f6, .string x.f7.f0, .string x.f7.f1, .string x.f7.f2, v37], rfl, rfl, ⟨[.int .i64 x.f1], [.int .i64 x.f2.f0, .string x.f2.f1.f0, .string x.f2.f1.f1, .string x.f2.f1.f2, .int .i64 x.f2.f2, .string x.f2.f3.f0, .string x.f2.f3.f1, .string x.f2.f4.f0.f0, .string x.f2.f4.f0.f1, .string x.f2.f4.f0.f2, .int .i64 x.f2.f4.f1, .string x.f2.f4.f2, .int .i64 x.f3.f0, .string x.f3.f1.f0, .string x.f3.f1.f1, .string x.f3.f1.f2, .int .i64 x.f3.f2, .string x.f3.f3.f0, .string x.f3.f3.f1, .string x.f3.f4.f0.f0, .string x.f3.f4.f0.f1, .string x.f3.f4.f0.f2, .int .i64 x.f3.f4.f1, .string x.f3.f4.f2, .string x.f4.f0.f0, .string x.f4.f0.f1, .string x.f4.f0.f2, .int .i64 x.f4.f1, .string x.f4.f2, .string x.f5.f0, .string x.f5.f1, .string x.f6, .string x.f7.f0, .string x.f7.f1, .string x.f7.f2, v37], rfl, rfl, ⟨[.int .i64 x.f2.f0, .string x.f2.f1.f0, .string x.f2.f1.f1, .string x.f2.f1.f2, .int .i64 x.f2.f2, .string x.f2.f3.f0, .string x.f2.f3.f1, .string x.f2.f4.f0.f0, .string x.f2.f4.f0.f1, .string x.f2.f4.f0.f2, .int .i64 x.f2.f4.f1, .string x.f2.f4.f2], [.int .i64 x.f3.f0, .string x.f3.f1.f0, .string x.f3.f1.f1, .string x.f3.f1.f2, .int .i64 x.f3.f2, .string x.f3.f3.f0, .string x.f3.f3.f1, .string x.f3.f4.f0.f0, .string x.f3.f4.f0.f1, .string x.f3.f4.f0.f2, .int .i64 x.f3.f4.f1, .string x.f3.f4.f2, .string x.f4.f0.f0, .string x.f4.f0.f1, .string x.f4.f0.f2, .int .i64 x.f4.f1, .string x.f4.f2, .string x.f5.f0, .string x.f5.f1, .string x.f6, .string x.f7.f0, .string x.f7.f1, .string x.f7.f2, v37], rfl, (k50_mkM w base ok x.f2 ), ⟨[.int .i64 x.f3.f0, .string x.f3.f1.f0, .string x.f3.f1.f1, .string x.f3.f1.f2, .int .i64 x.f3.f2, .string x.f3.f3.f0, .string x.f3.f3.f1, .string x.f3.f4.f0.f0, .string x.f3.f4.f0.f1, .string x.f3.f4.f0.f2, .int .i64 x.f3.f4.f1, .string x.f3.f4.f2], [.string x.f4.f0.f0, .string x.f4.f0.f1, .string x.f4.f0.f2, .int .i64 x.f4.f1, .string x.f4.f2, .string x.f5.f0, .string x.f5.f1, .string x.f6, .string x.f7.f0, .string x.f7.f1, .string x.f7.f2, v37], rfl, (k50_mkM w base ok x.f3 ), ⟨[.string x.f4.f0.f0, .string x.f4.f0.f1, .string x.f4.f0.f2, .int .i64 x.f4.f1, .string x.f4.f2], [.string x.f5.f0, .string x.f5.f1, .string x.f6, .string x.f7.f0, .string x.f7.f1, .string x.f7.f2, v37], rfl, (k46_mkM w base ok x.f4 ), ⟨[.string x.f5.f0, .string x.f5.f1], [.string x.f6, .string x.f7.f0, .string x.f7.f1, .string x.f7.f2, v37], rfl, (k44_mkM w base ok x.f5 ), ⟨[.string x.f6], [.string x.f7.f0, .string x.f7.f1, .string x.f7.f2, v37], rfl, rfl, ⟨[.string x.f7.f0, .string x.f7.f1, .string x.f7.f2], [v37], rfl, (k25_mkM w base ok x.f7 ), ⟨v37, rfl, g37⟩⟩⟩⟩⟩⟩⟩⟩⟩
def rd_T60 (xs : List S60) (i : Int) : S60 := xs.getD i.toNat z60
theorem at_T60 {w : World} {A : Option Addr} {n : Nat} {xs : List S60} (h : Kd.C k60 w A n xs) (i : Int) (h0 : 0 ≤ i) (h1 : i < n) : ∃ ad A37 c37, A = some ad ∧ w.cell? (ad.add (i.toNat * 38)) = some (.int .i64 (rd_T60 xs i).f0) ∧ w.cell? ⟨(ad.add (i.toNat * 38)).block, (ad.add (i.toNat * 38)).off + 1, none⟩ = some (.int .i64 (rd_T60 xs i).f1) ∧ w.cell? ⟨(ad.add (i.toNat * 38)).block, (ad.add (i.toNat * 38)).off + 2, none⟩ = some (.int .i64 (rd_T60 xs i).f2.f0) ∧ w.cell? ⟨(ad.add (i.toNat * 38)).block, (ad.add (i.toNat * 38)).off + 3, none⟩ = some (.string (rd_T60 xs i).f2.f1.f0) ∧ w.cell? ⟨(ad.add (i.toNat * 38)).block, (ad.add (i.toNat * 38)).off + 4, none⟩ = some (.string (rd_T60 xs i).f2.f1.f1) ∧ w.cell? ⟨(ad.add (i.toNat * 38)).block, (ad.add (i.toNat * 38)).off + 5, none⟩ = some (.string (rd_T60 xs i).f2.f1.f2) ∧ w.cell? ⟨(ad.add (i.toNat * 38)).block, (ad.add (i.toNat * 38)).off + 6, none⟩ = some (.int .i64 (rd_T60 xs i).f2.f2) ∧ w.cell? ⟨(ad.add (i.toNat * 38)).block, (ad.add (i.toNat * 38)).off + 7, none⟩ = some (.string (rd_T60 xs i).f2.f3.f0) ∧ w.cell? ⟨(ad.add (i.toNat * 38)).block, (ad.add (i.toNat * 38)).off + 8, none⟩ = some (.string (rd_T60 xs i).f2.f3.f1) ∧ w.cell? ⟨(ad.add (i.toNat * 38)).block, (ad.add (i.toNat * 38)).off + 9, none⟩ = some (.string (rd_T60 xs i).f2.f4.f0.f0) ∧ w.cell? ⟨(ad.add (i.toNat * 38)).block, (ad.add (i.toNat * 38)).off + 10, none⟩ = some (.string (rd_T60 xs i).f2.f4.f0.f1) ∧ w.cell? ⟨(ad.add (i.toNat * 38)).block, (ad.add (i.toNat * 38)).off + 11, none⟩ = some (.string (rd_T60 xs i).f2.f4.f0.f2) ∧ w.cell? ⟨(ad.add (i.toNat * 38)).block, (ad.add (i.toNat * 38)).off + 12, none⟩ = some (.int .i64 (rd_T60 xs i).f2.f4.f1) ∧ w.cell? ⟨(ad.add (i.toNat * 38)).block, (ad.add (i.toNat * 38)).off + 13, none⟩ = some (.string (rd_T60 xs i).f2.f4.f2) ∧ w.cell? ⟨(ad.add (i.toNat * 38)).block, (ad.add (i.toNat * 38)).off + 14, none⟩ = some (.int .i64 (rd_T60 xs i).f3.f0) ∧ w.cell? ⟨(ad.add (i.toNat * 38)).block, (ad.add (i.toNat * 38)).off + 15, none⟩ = some (.string (rd_T60 xs i).f3.f1.f0) ∧ w.cell? ⟨(ad.add (i.toNat * 38)).block, (ad.add (i.toNat * 38)).off + 16, none⟩ = some (.string (rd_T60 xs i).f3.f1.f1) ∧ w.cell? ⟨(ad.add (i.toNat * 38)).block, (ad.add (i.toNat * 38)).off + 17, none⟩ = some (.string (rd_T60 xs i).f3.f1.f2) ∧ w.cell? ⟨(ad.add (i.toNat * 38)).block, (ad.add (i.toNat * 38)).off + 18, none⟩ = some (.int .i64 (rd_T60 xs i).f3.f2) ∧ w.cell? ⟨(ad.add (i.toNat * 38)).block, (ad.add (i.toNat * 38)).off + 19, none⟩ = some (.string (rd_T60 xs i).f3.f3.f0) ∧ w.cell? ⟨(ad.add (i.toNat * 38)).block, (ad.add (i.toNat * 38)).off + 20, none⟩ = some (.string (rd_T60 xs i).f3.f3.f1) ∧ w.cell? ⟨(ad.add (i.toNat * 38)).block, (ad.add (i.toNat * 38)).off + 21, none⟩ = some (.string (rd_T60 xs i).f3.f4.f0.f0) ∧ w.cell? ⟨(ad.add (i.toNat * 38)).block, (ad.add (i.toNat * 38)).off + 22, none⟩ = some (.string (rd_T60 xs i).f3.f4.f0.f1) ∧ w.cell? ⟨(ad.add (i.toNat * 38)).block, (ad.add (i.toNat * 38)).off + 23, none⟩ = some (.string (rd_T60 xs i).f3.f4.f0.f2) ∧ w.cell? ⟨(ad.add (i.toNat * 38)).block, (ad.add (i.toNat * 38)).off + 24, none⟩ = some (.int .i64 (rd_T60 xs i).f3.f4.f1) ∧ w.cell? ⟨(ad.add (i.toNat * 38)).block, (ad.add (i.toNat * 38)).off + 25, none⟩ = some (.string (rd_T60 xs i).f3.f4.f2) ∧ w.cell? ⟨(ad.add (i.toNat * 38)).block, (ad.add (i.toNat * 38)).off + 26, none⟩ = some (.string (rd_T60 xs i).f4.f0.f0) ∧ w.cell? ⟨(ad.add (i.toNat * 38)).block, (ad.add (i.toNat * 38)).off + 27, none⟩ = some (.string (rd_T60 xs i).f4.f0.f1) ∧ w.cell? ⟨(ad.add (i.toNat * 38)).block, (ad.add (i.toNat * 38)).off + 28, none⟩ = some (.string (rd_T60 xs i).f4.f0.f2) ∧ w.cell? ⟨(ad.add (i.toNat * 38)).block, (ad.add (i.toNat * 38)).off + 29, none⟩ = some (.int .i64 (rd_T60 xs i).f4.f1) ∧ w.cell? ⟨(ad.add (i.toNat * 38)).block, (ad.add (i.toNat * 38)).off + 30, none⟩ = some (.string (rd_T60 xs i).f4.f2) ∧ w.cell? ⟨(ad.add (i.toNat * 38)).block, (ad.add (i.toNat * 38)).off + 31, none⟩ = some (.string (rd_T60 xs i).f5.f0) ∧ w.cell? ⟨(ad.add (i.toNat * 38)).block, (ad.add (i.toNat * 38)).off + 32, none⟩ = some (.string (rd_T60 xs i).f5.f1) ∧ w.cell? ⟨(ad.add (i.toNat * 38)).block, (ad.add (i.toNat * 38)).off + 33, none⟩ = some (.string (rd_T60 xs i).f6) ∧ w.cell? ⟨(ad.add (i.toNat * 38)).block, (ad.add (i.toNat * 38)).off + 34, none⟩ = some (.string (rd_T60 xs i).f7.f0) ∧ w.cell? ⟨(ad.add (i.toNat * 38)).block, (ad.add (i.toNat * 38)).off + 35, none⟩ = some (.string (rd_T60 xs i).f7.f1) ∧ w.cell? ⟨(ad.add (i.toNat * 38)).block, (ad.add (i.toNat * 38)).off + 36, none⟩ = some (.string (rd_T60 xs i).f7.f2) ∧ w.cell? ⟨(ad.add (i.toNat * 38)).block, (ad.add (i.toNat * 38)).off + 37, none⟩ = some (.slice A37 (rd_T60 xs i).f8.length c37) ∧ (rd_T60 xs i).f8.length ≤ c37 ∧ (Kd.int .i64).C w A37 (rd_T60 xs i).f8.length (rd_T60 xs i).f8 := by
 obtain ⟨ad,c,e,_,hK,hc0⟩:=Kd.C_get h z60 i h0 h1
 have hc : ∀ j u,c[j]? = some u → w.cell? (ad.add (i.toNat * 38 + j)) = some u:=hc0
 obtain ⟨A37,c37,rfl,l37,g37⟩:=k60_open hK
 exact ⟨ad,A37,c37,e,hc 0 _ rfl,by rw [← add_field _ _ 1 (by omega)];exact hc 1 _ rfl,by rw [← add_field _ _ 2 (by omega)];exact hc 2 _ rfl,by rw [← add_field _ _ 3 (by omega)];exact hc 3 _ rfl,by rw [← add_field _ _ 4 (by omega)];exact hc 4 _ rfl,by rw [← add_field _ _ 5 (by omega)];exact hc 5 _ rfl,by rw [← add_field _ _ 6 (by omega)];exact hc 6 _ rfl,by rw [← add_field _ _ 7 (by omega)];exact hc 7 _ rfl,by rw [← add_field _ _ 8 (by omega)];exact hc 8 _ rfl,by rw [← add_field _ _ 9 (by omega)];exact hc 9 _ rfl,by rw [← add_field _ _ 10 (by omega)];exact hc 10 _ rfl,by rw [← add_field _ _ 11 (by omega)];exact hc 11 _ rfl,by rw [← add_field _ _ 12 (by omega)];exact hc 12 _ rfl,by rw [← add_field _ _ 13 (by omega)];exact hc 13 _ rfl,by rw [← add_field _ _ 14 (by omega)];exact hc 14 _ rfl,by rw [← add_field _ _ 15 (by omega)];exact hc 15 _ rfl,by rw [← add_field _ _ 16 (by omega)];exact hc 16 _ rfl,by rw [← add_field _ _ 17 (by omega)];exact hc 17 _ rfl,by rw [← add_field _ _ 18 (by omega)];exact hc 18 _ rfl,by rw [← add_field _ _ 19 (by omega)];exact hc 19 _ rfl,by rw [← add_field _ _ 20 (by omega)];exact hc 20 _ rfl,by rw [← add_field _ _ 21 (by omega)];exact hc 21 _ rfl,by rw [← add_field _ _ 22 (by omega)];exact hc 22 _ rfl,by rw [← add_field _ _ 23 (by omega)];exact hc 23 _ rfl,by rw [← add_field _ _ 24 (by omega)];exact hc 24 _ rfl,by rw [← add_field _ _ 25 (by omega)];exact hc 25 _ rfl,by rw [← add_field _ _ 26 (by omega)];exact hc 26 _ rfl,by rw [← add_field _ _ 27 (by omega)];exact hc 27 _ rfl,by rw [← add_field _ _ 28 (by omega)];exact hc 28 _ rfl,by rw [← add_field _ _ 29 (by omega)];exact hc 29 _ rfl,by rw [← add_field _ _ 30 (by omega)];exact hc 30 _ rfl,by rw [← add_field _ _ 31 (by omega)];exact hc 31 _ rfl,by rw [← add_field _ _ 32 (by omega)];exact hc 32 _ rfl,by rw [← add_field _ _ 33 (by omega)];exact hc 33 _ rfl,by rw [← add_field _ _ 34 (by omega)];exact hc 34 _ rfl,by rw [← add_field _ _ 35 (by omega)];exact hc 35 _ rfl,by rw [← add_field _ _ 36 (by omega)];exact hc 36 _ rfl,by rw [← add_field _ _ 37 (by omega)];exact hc 37 _ rfl,l37,g37⟩
abbrev kS (s : ByteArray) (t : List Value) : List Value := .string s :: t
abbrev mS (a b c : ByteArray) (t : List Value) : List Value := .string a :: .string b :: .string c :: t
abbrev mL (m : S25) (t : List Value) : List Value := .string m.f0 :: .string m.f1 :: .string m.f2 :: t
abbrev mZ (t : List Value) : List Value := .string ⟨#[]⟩ :: .string ⟨#[]⟩ :: .string ⟨#[]⟩ :: t
abbrev fS (a b : ByteArray) (t : List Value) : List Value := .string a :: .string b :: t
abbrev fL (f : S44) (t : List Value) : List Value := .string f.f0 :: .string f.f1 :: t
abbrev fZ (t : List Value) : List Value := .string ⟨#[]⟩ :: .string ⟨#[]⟩ :: t
abbrev sM (m : S25) (i : Int) (s : ByteArray) (t : List Value) : List Value := .string m.f0 :: .string m.f1 :: .string m.f2 :: .int .i64 i :: .string s :: t
abbrev sL (s : S46) (t : List Value) : List Value := .string s.f0.f0 :: .string s.f0.f1 :: .string s.f0.f2 :: .int .i64 s.f1 :: .string s.f2 :: t
abbrev sZ (t : List Value) : List Value := .string ⟨#[]⟩ :: .string ⟨#[]⟩ :: .string ⟨#[]⟩ :: .int .i64 0 :: .string ⟨#[]⟩ :: t
abbrev qL (p : S50) (t : List Value) : List Value := .int .i64 p.f0 :: .string p.f1.f0 :: .string p.f1.f1 :: .string p.f1.f2 :: .int .i64 p.f2 :: .string p.f3.f0 :: .string p.f3.f1 :: .string p.f4.f0.f0 :: .string p.f4.f0.f1 :: .string p.f4.f0.f2 :: .int .i64 p.f4.f1 :: .string p.f4.f2 :: t
abbrev qR (k : Int) (m : S25) (r : Int) (t : List Value) : List Value := .int .i64 k :: .string m.f0 :: .string m.f1 :: .string m.f2 :: .int .i64 r :: .string ⟨#[]⟩ :: .string ⟨#[]⟩ :: .string ⟨#[]⟩ :: .string ⟨#[]⟩ :: .string ⟨#[]⟩ :: .int .i64 0 :: .string ⟨#[]⟩ :: t
abbrev qZ (t : List Value) : List Value := .int .i64 0 :: .string ⟨#[]⟩ :: .string ⟨#[]⟩ :: .string ⟨#[]⟩ :: .int .i64 0 :: .string ⟨#[]⟩ :: .string ⟨#[]⟩ :: .string ⟨#[]⟩ :: .string ⟨#[]⟩ :: .string ⟨#[]⟩ :: .int .i64 0 :: .string ⟨#[]⟩ :: t
abbrev zC (x : S33) (A : Option Addr) (c : Nat) (B : Option Addr) (d : Nat) (D : Option Addr) (e : Nat) : Array Value := #[.string x.f0, .string x.f1, .bool x.f2, .bool x.f3, .slice A x.f4.length c, .slice B x.f5.length d, .slice D x.f6.length e]
abbrev zH (x : S37) (A : Option Addr) (c : Nat) : Array Value := #[.string x.f0, .string x.f1, .bool x.f2, .bool x.f3, .int .i64 x.f4, .slice A x.f5.length c]
abbrev kK (k pc : Int) (t : List Value) : List Value := .int .i64 k :: .int .i64 pc :: t
def idxI {α : Type} (p : α → Bool) (xs : List α) : Int := if xs.findIdx p < xs.length then (xs.findIdx p : Int) else -1
theorem cell_lt {w : World} {a : Addr} {v : Value} (h : w.cell? a = some v) : a.block < w.heap.size := by
 rcases Nat.lt_or_ge a.block w.heap.size with hb|hb
 ·
  exact hb
 ·
  have e : w.heap[a.block]? = none:=Array.getElem?_eq_none hb
  simp [World.cell?,e] at h
theorem idxI_at {α : Type} {p : α → Bool} {xs : List α} {i : Nat} (hi : i < xs.length) (h : p xs[i] = true) (hb : ∀ (j : Nat) (hj : j < xs.length), j < i → p xs[j] = false) : idxI p xs = (i : Int) := by
 have e : xs.findIdx p = i:=(List.findIdx_eq hi).2 ⟨h,fun j hj => hb j (by omega) hj⟩
 unfold idxI
 rw [e,if_pos hi]
theorem idxI_no {α : Type} {p : α → Bool} {xs : List α} (h : ∀ x ∈ xs, p x = false) : idxI p xs = -1 := by
 have e : xs.findIdx p = xs.length:=List.findIdx_eq_length.2 h
 unfold idxI
 rw [e,if_neg (by omega)]
theorem class_at {w : World} {A : Option Addr} {xs : List S33} (h : Kd.C k33 w A xs.length xs) {i : Nat} (hi : i < xs.length) : ∃ ad A4 c4 A5 c5 A6 c6, A = some ad ∧ w.cell? (ad.add (i * 7)) = some (.string xs[i].f0) ∧ w.cell? ⟨(ad.add (i * 7)).block, (ad.add (i * 7)).off + 1, none⟩ = some (.string xs[i].f1) ∧ w.cell? ⟨(ad.add (i * 7)).block, (ad.add (i * 7)).off + 2, none⟩ = some (.bool xs[i].f2) ∧ w.cell? ⟨(ad.add (i * 7)).block, (ad.add (i * 7)).off + 3, none⟩ = some (.bool xs[i].f3) ∧ w.cell? ⟨(ad.add (i * 7)).block, (ad.add (i * 7)).off + 4, none⟩ = some (.slice A4 xs[i].f4.length c4) ∧ w.cell? ⟨(ad.add (i * 7)).block, (ad.add (i * 7)).off + 5, none⟩ = some (.slice A5 xs[i].f5.length c5) ∧ w.cell? ⟨(ad.add (i * 7)).block, (ad.add (i * 7)).off + 6, none⟩ = some (.slice A6 xs[i].f6.length c6) ∧ k33.K w xs[i] [.string xs[i].f0, .string xs[i].f1, .bool xs[i].f2, .bool xs[i].f3, .slice A4 xs[i].f4.length c4, .slice A5 xs[i].f5.length c5, .slice A6 xs[i].f6.length c6] := by
 obtain ⟨ad,A4,c4,A5,c5,A6,c6,e,h0,h1,h2,h3,h4,h5,h6,l4,g4,l5,g5,l6,g6⟩:=at_T33 h (i : Int) (by omega) (by omega)
 have hx : rd_T33 xs (i : Int) = xs[i]:=by
  unfold rd_T33
  rw [Int.toNat_natCast,List.getD_eq_getElem?_getD,List.getElem?_eq_getElem hi]
  rfl
 simp only [hx,Int.toNat_natCast] at h0 h1 h2 h3 h4 h5 h6 l4 g4 l5 g5 l6 g6
 exact ⟨ad,A4,c4,A5,c5,A6,c6,e,h0,h1,h2,h3,h4,h5,h6,k33_mk w xs[i] l4 g4 l5 g5 l6 g6⟩
theorem method_at {w : World} {A : Option Addr} {xs : List S37} (h : Kd.C k37 w A xs.length xs) {i : Nat} (hi : i < xs.length) : ∃ ad A5 c5, A = some ad ∧ w.cell? (ad.add (i * 6)) = some (.string xs[i].f0) ∧ w.cell? ⟨(ad.add (i * 6)).block, (ad.add (i * 6)).off + 1, none⟩ = some (.string xs[i].f1) ∧ w.cell? ⟨(ad.add (i * 6)).block, (ad.add (i * 6)).off + 2, none⟩ = some (.bool xs[i].f2) ∧ w.cell? ⟨(ad.add (i * 6)).block, (ad.add (i * 6)).off + 3, none⟩ = some (.bool xs[i].f3) ∧ w.cell? ⟨(ad.add (i * 6)).block, (ad.add (i * 6)).off + 4, none⟩ = some (.int .i64 xs[i].f4) ∧ w.cell? ⟨(ad.add (i * 6)).block, (ad.add (i * 6)).off + 5, none⟩ = some (.slice A5 xs[i].f5.length c5) ∧ k37.K w xs[i] [.string xs[i].f0, .string xs[i].f1, .bool xs[i].f2, .bool xs[i].f3, .int .i64 xs[i].f4, .slice A5 xs[i].f5.length c5] := by
 obtain ⟨ad,A5,c5,e,h0,h1,h2,h3,h4,h5,l5,g5⟩:=at_T37 h (i : Int) (by omega) (by omega)
 have hx : rd_T37 xs (i : Int) = xs[i]:=by
  unfold rd_T37
  rw [Int.toNat_natCast,List.getD_eq_getElem?_getD,List.getElem?_eq_getElem hi]
  rfl
 simp only [hx,Int.toNat_natCast] at h0 h1 h2 h3 h4 h5 l5 g5
 exact ⟨ad,A5,c5,e,h0,h1,h2,h3,h4,h5,k37_mk w xs[i] l5 g5⟩
theorem index_class (p : S33 → Bool) (g : Nat) (A : Option Addr) (c : Nat) (xs : List (S33)) (w : World) (hC : Kd.C k33 w A xs.length xs) (hc : xs.length ≤ c)
  (hp : ∀ (x : S33) (cs : List Value) (W : World),x ∈ xs → Below w.heap.size w W → k33.K W x cs → Calls Try.prog 84 (#[.agg cs.toArray,.pointer (some ⟨g,0,none⟩)]) W fun e w' => e = .returned (.bool (p x)) ∧ Below W.heap.size W w') :
  Calls Try.prog 83 #[.slice A xs.length c,.func (.func 84) #[] #[.pointer (some ⟨g,0,none⟩)]] w fun e w' => e = .returned (.int .i64 (idxI p xs)) ∧ Below w.heap.size w w':=by
 have HC:=aq hC
 have HP:=aq hp
 have hmx:=hC.2.1
 clear hC hp
 go_enter Try.func83,Try.ntmps83
 go_wp2
 go_loopg [8] xs.length (fun kq v8 wr => ∃ i : Nat,v8 = .int .i64 (i : Int) ∧ i + kq = xs.length ∧ Aside0 (∀ j (hj : j < xs.length),j < i → p xs[j] = false) ∧ Aside0 (Below w.heap.size w wr))
 case atStart => exact ⟨0,rfl,by omega,⟨fun j _ h => absurd h (Nat.not_lt_zero j)⟩,⟨Below.refl _ _⟩⟩
 case round =>
  obtain ⟨i,rfl,hi,HA,HB⟩:=hrel
  by_cases hlt : i < xs.length
  ·
   obtain ⟨ad,A4,c4,A5,c5,A6,c6,rfl,h0,h1,h2,h3,h4,h5,h6,hK⟩:=class_at (Kd.C_below HC.out HB.out) hlt
   have HPX:=aq (HP.out xs[i] _ wr (List.getElem_mem hlt) HB.out hK)
   clear hK
   have hd : decide ((i : Int) < (xs.length : Int)) = true:=decide_eq_true (by omega)
   cases hbd : p xs[i] with
   | true =>
    have HBD:=aq hbd
    rw [hbd] at HPX
    clear hbd
    go_wp2_with (go_at_call 84;refine HPX.out.mono ?_;rintro e w1 ⟨rfl,hb⟩;have HB1:=aq (HB.out.trans (hb.mono HB.out.size)))
    refine bodyPost_ret (results_tmp rfl _ _ _) rfl ⟨?_,HB1.out⟩
    rw [idxI_at hlt HBD.out HA.out]
    rfl
   | false =>
    have HBF:=aq hbd
    rw [hbd] at HPX
    clear hbd
    go_wp2_with (go_at_call 84;refine HPX.out.mono ?_;rintro e w1 ⟨rfl,hb⟩;have HB1:=aq (HB.out.trans (hb.mono HB.out.size)))
    go_roundg (gk - 1)
    case measure => omega
    case rel =>
     refine ⟨i + 1,by simp,by omega,⟨fun j hj hji => ?_⟩,HB1⟩
     by_cases e : j = i
     ·
      subst e
      exact HBF.out
     ·
      exact HA.out j hj (by omega)
  ·
   have hd : decide ((i : Int) < (xs.length : Int)) = false:=decide_eq_false (by omega)
   have HF : Aside0 (∀ x ∈ xs,p x = false):=⟨fun x hx => by
    obtain ⟨j,hj,rfl⟩:=List.mem_iff_getElem.1 hx
    exact HA.out j hj (by omega)⟩
   go_wp2
   go_ret
   rw [idxI_no HF.out]
   exact ⟨rfl,HB.out⟩
theorem index_method (p : S37 → Bool) (g g' : Nat) (A : Option Addr) (c : Nat) (xs : List (S37)) (w : World) (hC : Kd.C k37 w A xs.length xs) (hc : xs.length ≤ c)
  (hp : ∀ (x : S37) (cs : List Value) (W : World),x ∈ xs → Below w.heap.size w W → k37.K W x cs → Calls Try.prog 60 (#[.agg cs.toArray,.pointer (some ⟨g,0,none⟩),.pointer (some ⟨g',0,none⟩)]) W fun e w' => e = .returned (.bool (p x)) ∧ Below W.heap.size W w') :
  Calls Try.prog 59 #[.slice A xs.length c,.func (.func 60) #[] #[.pointer (some ⟨g,0,none⟩),.pointer (some ⟨g',0,none⟩)]] w fun e w' => e = .returned (.int .i64 (idxI p xs)) ∧ Below w.heap.size w w':=by
 have HC:=aq hC
 have HP:=aq hp
 have hmx:=hC.2.1
 clear hC hp
 go_enter Try.func59,Try.ntmps59
 go_wp2
 go_loopg [8] xs.length (fun kq v8 wr => ∃ i : Nat,v8 = .int .i64 (i : Int) ∧ i + kq = xs.length ∧ Aside0 (∀ j (hj : j < xs.length),j < i → p xs[j] = false) ∧ Aside0 (Below w.heap.size w wr))
 case atStart => exact ⟨0,rfl,by omega,⟨fun j _ h => absurd h (Nat.not_lt_zero j)⟩,⟨Below.refl _ _⟩⟩
 case round =>
  obtain ⟨i,rfl,hi,HA,HB⟩:=hrel
  by_cases hlt : i < xs.length
  ·
   obtain ⟨ad,A5,c5,rfl,h0,h1,h2,h3,h4,h5,hK⟩:=method_at (Kd.C_below HC.out HB.out) hlt
   have HPX:=aq (HP.out xs[i] _ wr (List.getElem_mem hlt) HB.out hK)
   clear hK
   have hd : decide ((i : Int) < (xs.length : Int)) = true:=decide_eq_true (by omega)
   cases hbd : p xs[i] with
   | true =>
    have HBD:=aq hbd
    rw [hbd] at HPX
    clear hbd
    go_wp2_with (go_at_call 60;refine HPX.out.mono ?_;rintro e w1 ⟨rfl,hb⟩;have HB1:=aq (HB.out.trans (hb.mono HB.out.size)))
    refine bodyPost_ret (results_tmp rfl _ _ _) rfl ⟨?_,HB1.out⟩
    rw [idxI_at hlt HBD.out HA.out]
    rfl
   | false =>
    have HBF:=aq hbd
    rw [hbd] at HPX
    clear hbd
    go_wp2_with (go_at_call 60;refine HPX.out.mono ?_;rintro e w1 ⟨rfl,hb⟩;have HB1:=aq (HB.out.trans (hb.mono HB.out.size)))
    go_roundg (gk - 1)
    case measure => omega
    case rel =>
     refine ⟨i + 1,by simp,by omega,⟨fun j hj hji => ?_⟩,HB1⟩
     by_cases e : j = i
     ·
      subst e
      exact HBF.out
     ·
      exact HA.out j hj (by omega)
  ·
   have hd : decide ((i : Int) < (xs.length : Int)) = false:=decide_eq_false (by omega)
   have HF : Aside0 (∀ x ∈ xs,p x = false):=⟨fun x hx => by
    obtain ⟨j,hj,rfl⟩:=List.mem_iff_getElem.1 hx
    exact HA.out j hj (by omega)⟩
   go_wp2
   go_ret
   rw [idxI_no HF.out]
   exact ⟨rfl,HB.out⟩
def isC (name : ByteArray) (x : S33) : Bool := x.f0.toList == name.toList
theorem class_lit (x : S33) (cs : List Value) (g : Nat) (name : ByteArray) (w : World) (hK : k33.K w x cs) (hs : w.cell? ⟨g, 0, none⟩ = some (.string name)) :
  Calls Try.prog 84 #[.agg cs.toArray,.pointer (some ⟨g,0,none⟩)] w fun e w' => e = .returned (.bool (isC name x)) ∧ Below w.heap.size w w':=by
 obtain ⟨A4,c4,A5,c5,A6,c6,rfl,_⟩:=k33_open hK
 have hg:=cell_lt hs
 clear hK
 go_enter Try.func84,Try.ntmps84
 go_wp2
 go_ret
 exact ⟨rfl,by first|exact below_alloc (Below.refl _ _) _|exact Below.refl _ _⟩
def isM (name desc : ByteArray) (x : S37) : Bool := (x.f0.toList == name.toList) && (x.f1.toList == desc.toList)
theorem method_lit (x : S37) (cs : List Value) (g g' : Nat) (name desc : ByteArray) (w : World) (hK : k37.K w x cs) (hs : w.cell? ⟨g, 0, none⟩ = some (.string name)) (hs' : w.cell? ⟨g', 0, none⟩ = some (.string desc)) :
  Calls Try.prog 60 #[.agg cs.toArray,.pointer (some ⟨g,0,none⟩),.pointer (some ⟨g',0,none⟩)] w fun e w' => e = .returned (.bool (isM name desc x)) ∧ Below w.heap.size w w':=by
 obtain ⟨A5,c5,rfl,_⟩:=k37_open hK
 have hg:=cell_lt hs
 have hg':=cell_lt hs'
 clear hK
 unfold isM
 cases hb : (x.f0.toList == name.toList) with
 | true =>
  go_enter Try.func60,Try.ntmps60
  go_wp2
  go_ret
  exact ⟨by simp,by first|exact below_alloc (Below.refl _ _) _|exact Below.refl _ _⟩
 | false =>
  go_enter Try.func60,Try.ntmps60
  go_wp2
  go_ret
  exact ⟨by simp,by first|exact below_alloc (Below.refl _ _) _|exact Below.refl _ _⟩
def norm_Class.f (l0_0 : List S33) (l0_1 : List ByteArray) (a0_2 a0_3 a0_4 a1 : ByteArray) : Option Int := some (idxI (isC a1) l0_0)
theorem norm_Class.calls (A0_0 : Option Addr) (c0_0 : Nat) (l0_0 : List S33) (A0_1 : Option Addr) (c0_1 : Nat) (l0_1 : List ByteArray) (a0_2 : ByteArray) (a0_3 : ByteArray) (a0_4 : ByteArray) (a1 : ByteArray) (r : Int) (w : World) (hr0_0 : Kd.C k33 w A0_0 l0_0.length l0_0) (hc0_0 : l0_0.length ≤ c0_0) (hr0_1 : Kd.C Kd.string w A0_1 l0_1.length l0_1) (hc0_1 : l0_1.length ≤ c0_1) (h : norm_Class.f l0_0 l0_1 a0_2 a0_3 a0_4 a1 = some r) :
  Calls Try.prog 58 #[.agg (pG A0_0 l0_0 c0_0 A0_1 l0_1 c0_1 a0_2 a0_3 a0_4),.string a1] w fun e w' => e = .returned (.int .i64 r) ∧ Below w.heap.size w w':=by
 obtain rfl : idxI (isC a1) l0_0 = r:=Option.some.inj h
 have HC:=aq hr0_0
 clear h hr0_0 hr0_1
 go_enter Try.func58,Try.ntmps58
 go_wp2_with fail
 refine (index_class (isC a1) (w.heap.size + 1) A0_0 c0_0 l0_0 _ (Kd.C_below HC.out (below_alloc (below_alloc (Below.refl _ _) _) _)) hc0_0 (fun x cs W _ hb hK => class_lit x cs _ a1 W hK ((hb.cell (by simp)).trans (by simp)))).mono ?_
 rintro e w1 ⟨rfl,hb⟩
 go_wp2_with fail
 exact bodyPost_ret (results_tmp rfl _ _ _) rfl ⟨rfl,below_step (below_alloc (below_alloc (Below.refl _ _) _) _) hb⟩
def norm_Method.f (a0_0 a0_1 : ByteArray) (a0_2 a0_3 : Bool) (l0_4 : List ByteArray) (l0_5 : List S103) (l0_6 : List S37) (a1 a2 : ByteArray) : Option Int := some (idxI (isM a1 a2) l0_6)
theorem norm_Method.calls (a0_0 : ByteArray) (a0_1 : ByteArray) (a0_2 : Bool) (a0_3 : Bool) (A0_4 : Option Addr) (c0_4 : Nat) (l0_4 : List ByteArray) (A0_5 : Option Addr) (c0_5 : Nat) (l0_5 : List S103) (A0_6 : Option Addr) (c0_6 : Nat) (l0_6 : List S37) (a1 : ByteArray) (a2 : ByteArray) (r : Int) (w : World) (hr0_4 : Kd.C Kd.string w A0_4 l0_4.length l0_4) (hc0_4 : l0_4.length ≤ c0_4) (hr0_5 : Kd.C k103 w A0_5 l0_5.length l0_5) (hc0_5 : l0_5.length ≤ c0_5) (hr0_6 : Kd.C k37 w A0_6 l0_6.length l0_6) (hc0_6 : l0_6.length ≤ c0_6) (h : norm_Method.f a0_0 a0_1 a0_2 a0_3 l0_4 l0_5 l0_6 a1 a2 = some r) :
  Calls Try.prog 36 #[.agg #[.string a0_0,.string a0_1,.bool a0_2,.bool a0_3,.slice A0_4 l0_4.length c0_4,.slice A0_5 l0_5.length c0_5,.slice A0_6 l0_6.length c0_6],.string a1,.string a2] w fun e w' => e = .returned (.int .i64 r) ∧ Below w.heap.size w w':=by
 obtain rfl : idxI (isM a1 a2) l0_6 = r:=Option.some.inj h
 have HC:=aq hr0_6
 clear h hr0_4 hr0_5 hr0_6
 go_enter Try.func36,Try.ntmps36
 go_wp2_with fail
 have n1 : ((w.alloc (Obj.cells #[.string a0_0,.string a0_1,.bool a0_2,.bool a0_3,.slice A0_4 l0_4.length c0_4,.slice A0_5 l0_5.length c0_5,.slice A0_6 l0_6.length c0_6] 33)).alloc (Obj.cells #[.string a1] 9)).heap[w.heap.size + 1]? = some (Obj.cells #[.string a1] 9 (0,0)):=by
  have:=World.alloc_heap_new (w.alloc (Obj.cells #[.string a0_0,.string a0_1,.bool a0_2,.bool a0_3,.slice A0_4 l0_4.length c0_4,.slice A0_5 l0_5.length c0_5,.slice A0_6 l0_6.length c0_6] 33)) (Obj.cells #[.string a1] 9)
  rwa [World.size_alloc] at this
 have n2:=blk_alloc n1 (Obj.cells #[.string a2] 9)
 have n3 : (((w.alloc (Obj.cells #[.string a0_0,.string a0_1,.bool a0_2,.bool a0_3,.slice A0_4 l0_4.length c0_4,.slice A0_5 l0_5.length c0_5,.slice A0_6 l0_6.length c0_6] 33)).alloc (Obj.cells #[.string a1] 9)).alloc (Obj.cells #[.string a2] 9)).heap[w.heap.size + 1 + 1]? = some (Obj.cells #[.string a2] 9 (0,0)):=by
  have:=World.alloc_heap_new ((w.alloc (Obj.cells #[.string a0_0,.string a0_1,.bool a0_2,.bool a0_3,.slice A0_4 l0_4.length c0_4,.slice A0_5 l0_5.length c0_5,.slice A0_6 l0_6.length c0_6] 33)).alloc (Obj.cells #[.string a1] 9)) (Obj.cells #[.string a2] 9)
  rwa [World.size_alloc,World.size_alloc] at this
 refine (index_method (isM a1 a2) (w.heap.size + 1) (w.heap.size + 1 + 1) A0_6 c0_6 l0_6 _ (Kd.C_below HC.out (below_alloc (below_alloc (below_alloc (Below.refl _ _) _) _) _)) hc0_6 (fun x cs W _ hb hK => method_lit x cs _ _ a1 a2 W hK ((hb.cell (by simp)).trans (blk_cell n2 0)) ((hb.cell (by simp)).trans (blk_cell n3 0)))).mono ?_
 rintro e w1 ⟨rfl,hb⟩
 clear n1 n2 n3
 go_wp2_with fail
 exact bodyPost_ret (results_tmp rfl _ _ _) rfl ⟨rfl,below_step (below_alloc (below_alloc (below_alloc (Below.refl _ _) _) _) _) hb⟩
theorem idxI_cases {α : Type} (p : α → Bool) (xs : List α) : (idxI p xs = -1 ∧ xs.find? p = none) ∨ ∃ (i : Nat) (hi : i < xs.length), idxI p xs = (i : Int) ∧ xs.find? p = some xs[i] := by
 unfold idxI
 by_cases h : xs.findIdx p < xs.length
 ·
  refine .inr ⟨xs.findIdx p,h,by rw [if_pos h],?_⟩
  rw [List.find?_eq_some_iff_getElem]
  exact ⟨List.findIdx_getElem,xs.findIdx p,h,rfl,fun j hj => by simpa using List.not_of_lt_findIdx hj⟩
 ·
  refine .inl ⟨by rw [if_neg h],?_⟩
  rw [List.find?_eq_none]
  intro x hx
  have:=List.findIdx_eq_length.1 (Nat.le_antisymm List.findIdx_le_length (Nat.le_of_not_lt h)) x hx
  rw [this]
  decide
theorem set7_own {w : World} {R : Nat} {t : TypeId} {u0 u1 u2 u3 u4 u5 u6 : Value} (h : w.heap[R]? = some (Obj.cells #[u0, u1, u2, u3, u4, u5, u6] t (0, 0))) (v0 v1 v2 v3 v4 v5 v6 : Value) : (((((((w.setCell ⟨R, 0, none⟩ v0).setCell ⟨R, 1, none⟩ v1).setCell ⟨R, 2, none⟩ v2).setCell ⟨R, 3, none⟩ v3).setCell ⟨R, 4, none⟩ v4).setCell ⟨R, 5, none⟩ v5).setCell ⟨R, 6, none⟩ v6).heap[R]? = some (Obj.cells #[v0, v1, v2, v3, v4, v5, v6] t (0, 0)) :=
 blk_put (cs':=#[v0,v1,v2,v3,v4,v5,v6]) (blk_put (cs':=#[v0,v1,v2,v3,v4,v5,u6]) (blk_put (cs':=#[v0,v1,v2,v3,v4,u5,u6]) (blk_put (cs':=#[v0,v1,v2,v3,u4,u5,u6]) (blk_put (cs':=#[v0,v1,v2,u3,u4,u5,u6]) (blk_put (cs':=#[v0,v1,u2,u3,u4,u5,u6]) (blk_put (cs':=#[v0,u1,u2,u3,u4,u5,u6]) h 0 v0 rfl) 1 v1 rfl) 2 v2 rfl) 3 v3 rfl) 4 v4 rfl) 5 v5 rfl) 6 v6 rfl
theorem set7_below {w0 w : World} {R : Nat} (h : Below w0.heap.size w0 w) (hR : w0.heap.size ≤ R) (v0 v1 v2 v3 v4 v5 v6 : Value) : Below w0.heap.size w0 (((((((w.setCell ⟨R, 0, none⟩ v0).setCell ⟨R, 1, none⟩ v1).setCell ⟨R, 2, none⟩ v2).setCell ⟨R, 3, none⟩ v3).setCell ⟨R, 4, none⟩ v4).setCell ⟨R, 5, none⟩ v5).setCell ⟨R, 6, none⟩ v6) := below_set (below_set (below_set (below_set (below_set (below_set (below_set h hR) hR) hR) hR) hR) hR) hR
theorem set6_own {w : World} {R : Nat} {t : TypeId} {u0 u1 u2 u3 u4 u5 : Value} (h : w.heap[R]? = some (Obj.cells #[u0, u1, u2, u3, u4, u5] t (0, 0))) (v0 v1 v2 v3 v4 v5 : Value) : ((((((w.setCell ⟨R, 0, none⟩ v0).setCell ⟨R, 1, none⟩ v1).setCell ⟨R, 2, none⟩ v2).setCell ⟨R, 3, none⟩ v3).setCell ⟨R, 4, none⟩ v4).setCell ⟨R, 5, none⟩ v5).heap[R]? = some (Obj.cells #[v0, v1, v2, v3, v4, v5] t (0, 0)) :=
 blk_put (cs':=#[v0,v1,v2,v3,v4,v5]) (blk_put (cs':=#[v0,v1,v2,v3,v4,u5]) (blk_put (cs':=#[v0,v1,v2,v3,u4,u5]) (blk_put (cs':=#[v0,v1,v2,u3,u4,u5]) (blk_put (cs':=#[v0,v1,u2,u3,u4,u5]) (blk_put (cs':=#[v0,u1,u2,u3,u4,u5]) h 0 v0 rfl) 1 v1 rfl) 2 v2 rfl) 3 v3 rfl) 4 v4 rfl) 5 v5 rfl
theorem set6_below {w0 w : World} {R : Nat} (h : Below w0.heap.size w0 w) (hR : w0.heap.size ≤ R) (v0 v1 v2 v3 v4 v5 : Value) : Below w0.heap.size w0 ((((((w.setCell ⟨R, 0, none⟩ v0).setCell ⟨R, 1, none⟩ v1).setCell ⟨R, 2, none⟩ v2).setCell ⟨R, 3, none⟩ v3).setCell ⟨R, 4, none⟩ v4).setCell ⟨R, 5, none⟩ v5) := below_set (below_set (below_set (below_set (below_set (below_set h hR) hR) hR) hR) hR) hR
structure ClAt (w : World) (a : Addr) (x : S33) (A4 : Option Addr) (c4 : Nat) (A5 : Option Addr) (c5 : Nat) (A6 : Option Addr) (c6 : Nat) : Prop where
 h0 : w.cell? a = some (.string x.f0)
 h1 : w.cell? ⟨a.block,a.off + 1,none⟩ = some (.string x.f1)
 h2 : w.cell? ⟨a.block,a.off + 2,none⟩ = some (.bool x.f2)
 h3 : w.cell? ⟨a.block,a.off + 3,none⟩ = some (.bool x.f3)
 h4 : w.cell? ⟨a.block,a.off + 4,none⟩ = some (.slice A4 x.f4.length c4)
 h5 : w.cell? ⟨a.block,a.off + 5,none⟩ = some (.slice A5 x.f5.length c5)
 h6 : w.cell? ⟨a.block,a.off + 6,none⟩ = some (.slice A6 x.f6.length c6)
theorem ClAt.below {w w' : World} {a : Addr} {x : S33} {A4 : Option Addr} {c4 : Nat} {A5 : Option Addr} {c5 : Nat} {A6 : Option Addr} {c6 : Nat} (h : ClAt w a x A4 c4 A5 c5 A6 c6) (hb : Below w.heap.size w w') : ClAt w' a x A4 c4 A5 c5 A6 c6 :=
 ⟨(hb.cell (cell_lt h.h0)).trans h.h0,(hb.cell (cell_lt h.h1)).trans h.h1,(hb.cell (cell_lt h.h2)).trans h.h2,(hb.cell (cell_lt h.h3)).trans h.h3,(hb.cell (cell_lt h.h4)).trans h.h4,(hb.cell (cell_lt h.h5)).trans h.h5,(hb.cell (cell_lt h.h6)).trans h.h6⟩
theorem ClAt_of {w : World} {ok : Nat → Prop} {A : Option Addr} {xs : List S33} (h : Kd.F k33 w ok A xs.length xs) {i : Nat} (hi : i < xs.length) : ∃ ad A4 c4 A5 c5 A6 c6, A = some ad ∧ ClAt w (ad.add (i * 7)) xs[i] A4 c4 A5 c5 A6 c6 ∧ Kd.FK k33 w ok xs[i] [.string xs[i].f0, .string xs[i].f1, .bool xs[i].f2, .bool xs[i].f3, .slice A4 xs[i].f4.length c4, .slice A5 xs[i].f5.length c5, .slice A6 xs[i].f6.length c6] := by
 obtain ⟨ad,c,e,hcl,hK,hc0,_⟩:=Kd.F_get h z33 (i : Int) (by omega) (by omega)
 have hx : xs.getD (i : Int).toNat z33 = xs[i]:=by
  rw [Int.toNat_natCast,List.getD_eq_getElem?_getD,List.getElem?_eq_getElem hi]
  rfl
 rw [hx] at hK
 have hc : ∀ j u,c[j]? = some u → w.cell? (ad.add (i * 7 + j)) = some u:=hc0
 obtain ⟨A4,c4,A5,c5,A6,c6,rfl,_⟩:=k33_open (Kd.FK_now hK)
 exact ⟨ad,A4,c4,A5,c5,A6,c6,e,⟨hc 0 _ rfl,(by rw [← add_field _ _ 1 (by omega)];exact hc 1 _ rfl),(by rw [← add_field _ _ 2 (by omega)];exact hc 2 _ rfl),(by rw [← add_field _ _ 3 (by omega)];exact hc 3 _ rfl),(by rw [← add_field _ _ 4 (by omega)];exact hc 4 _ rfl),(by rw [← add_field _ _ 5 (by omega)];exact hc 5 _ rfl),(by rw [← add_field _ _ 6 (by omega)];exact hc 6 _ rfl)⟩,hK⟩
structure MeAt (w : World) (a : Addr) (x : S37) (A5 : Option Addr) (c5 : Nat) : Prop where
 h0 : w.cell? a = some (.string x.f0)
 h1 : w.cell? ⟨a.block,a.off + 1,none⟩ = some (.string x.f1)
 h2 : w.cell? ⟨a.block,a.off + 2,none⟩ = some (.bool x.f2)
 h3 : w.cell? ⟨a.block,a.off + 3,none⟩ = some (.bool x.f3)
 h4 : w.cell? ⟨a.block,a.off + 4,none⟩ = some (.int .i64 x.f4)
 h5 : w.cell? ⟨a.block,a.off + 5,none⟩ = some (.slice A5 x.f5.length c5)
theorem MeAt.below {w w' : World} {a : Addr} {x : S37} {A5 : Option Addr} {c5 : Nat} (h : MeAt w a x A5 c5) (hb : Below w.heap.size w w') : MeAt w' a x A5 c5 :=
 ⟨(hb.cell (cell_lt h.h0)).trans h.h0,(hb.cell (cell_lt h.h1)).trans h.h1,(hb.cell (cell_lt h.h2)).trans h.h2,(hb.cell (cell_lt h.h3)).trans h.h3,(hb.cell (cell_lt h.h4)).trans h.h4,(hb.cell (cell_lt h.h5)).trans h.h5⟩
theorem MeAt_of {w : World} {ok : Nat → Prop} {A : Option Addr} {xs : List S37} (h : Kd.F k37 w ok A xs.length xs) {i : Nat} (hi : i < xs.length) : ∃ ad A5 c5, A = some ad ∧ MeAt w (ad.add (i * 6)) xs[i] A5 c5 ∧ Kd.FK k37 w ok xs[i] [.string xs[i].f0, .string xs[i].f1, .bool xs[i].f2, .bool xs[i].f3, .int .i64 xs[i].f4, .slice A5 xs[i].f5.length c5] := by
 obtain ⟨ad,c,e,hcl,hK,hc0,_⟩:=Kd.F_get h z37 (i : Int) (by omega) (by omega)
 have hx : xs.getD (i : Int).toNat z37 = xs[i]:=by
  rw [Int.toNat_natCast,List.getD_eq_getElem?_getD,List.getElem?_eq_getElem hi]
  rfl
 rw [hx] at hK
 have hc : ∀ j u,c[j]? = some u → w.cell? (ad.add (i * 6 + j)) = some u:=hc0
 obtain ⟨A5,c5,rfl,_⟩:=k37_open (Kd.FK_now hK)
 exact ⟨ad,A5,c5,e,⟨hc 0 _ rfl,(by rw [← add_field _ _ 1 (by omega)];exact hc 1 _ rfl),(by rw [← add_field _ _ 2 (by omega)];exact hc 2 _ rfl),(by rw [← add_field _ _ 3 (by omega)];exact hc 3 _ rfl),(by rw [← add_field _ _ 4 (by omega)];exact hc 4 _ rfl),(by rw [← add_field _ _ 5 (by omega)];exact hc 5 _ rfl)⟩,hK⟩
theorem class_methods {w : World} {ok : Nat → Prop} {x : S33} {A4 : Option Addr} {c4 : Nat} {A5 : Option Addr} {c5 : Nat} {A6 : Option Addr} {c6 : Nat} (h : Kd.FK k33 w ok x [.string x.f0, .string x.f1, .bool x.f2, .bool x.f3, .slice A4 x.f4.length c4, .slice A5 x.f5.length c5, .slice A6 x.f6.length c6]) : Kd.F k37 w ok A6 x.f6.length x.f6 := fun W' hW => by
 obtain ⟨A4',c4',A5',c5',A6',c6',he,_,_,_,_,_,g6⟩:=k33_open (h W' hW)
 simp only [List.cons.injEq,Value.slice.injEq] at he
 obtain ⟨_,_,_,_,_,_,⟨rfl,_,_⟩,_⟩:=he
 exact g6
theorem class_opens {w : World} {ok : Nat → Prop} {x : S33} {A4 : Option Addr} {c4 : Nat} {A5 : Option Addr} {c5 : Nat} {A6 : Option Addr} {c6 : Nat} (h : Kd.FK k33 w ok x [.string x.f0, .string x.f1, .bool x.f2, .bool x.f3, .slice A4 x.f4.length c4, .slice A5 x.f5.length c5, .slice A6 x.f6.length c6]) : x.f4.length ≤ c4 ∧ Kd.C Kd.string w A4 x.f4.length x.f4 ∧ x.f5.length ≤ c5 ∧ Kd.C k103 w A5 x.f5.length x.f5 ∧ x.f6.length ≤ c6 ∧ Kd.C k37 w A6 x.f6.length x.f6 := by
 obtain ⟨A4',c4',A5',c5',A6',c6',he,l4,g4,l5,g5,l6,g6⟩:=k33_open (Kd.FK_now h)
 simp only [List.cons.injEq,Value.slice.injEq] at he
 obtain ⟨_,_,_,_,⟨rfl,_,rfl⟩,⟨rfl,_,rfl⟩,⟨rfl,_,rfl⟩,_⟩:=he
 exact ⟨l4,g4,l5,g5,l6,g6⟩
theorem method_code {w : World} {ok : Nat → Prop} {x : S37} {A5 : Option Addr} {c5 : Nat} (h : Kd.FK k37 w ok x [.string x.f0, .string x.f1, .bool x.f2, .bool x.f3, .int .i64 x.f4, .slice A5 x.f5.length c5]) : x.f5.length ≤ c5 ∧ Kd.F k74 w ok A5 x.f5.length x.f5 := by
 refine ⟨?_,fun W' hW => ?_⟩
 ·
  obtain ⟨A5',c5',he,l5,_⟩:=k37_open (Kd.FK_now h)
  simp only [List.cons.injEq,Value.slice.injEq] at he
  obtain ⟨_,_,_,_,_,⟨_,_,rfl⟩,_⟩:=he
  exact l5
 ·
  obtain ⟨A5',c5',he,_,g5⟩:=k37_open (h W' hW)
  simp only [List.cons.injEq,Value.slice.injEq] at he
  obtain ⟨_,_,_,_,_,⟨rfl,_,_⟩,_⟩:=he
  exact g5
theorem zero_class (w : World) (ok : Nat → Prop) : Kd.FK k33 w ok z33 [.string ⟨#[]⟩, .string ⟨#[]⟩, .bool false, .bool false, .slice none 0 0, .slice none 0 0, .slice none 0 0] := fun W' _ => k33_mk W' z33 (Nat.le_refl _) (Kd.C_nil _ _) (Nat.le_refl _) (Kd.C_nil _ _) (Nat.le_refl _) (Kd.C_nil _ _)
theorem zero_method (w : World) (ok : Nat → Prop) : Kd.FK k37 w ok z37 [.string ⟨#[]⟩, .string ⟨#[]⟩, .bool false, .bool false, .int .i64 0, .slice none 0 0] := fun W' _ => k37_mk W' z37 (Nat.le_refl _) (Kd.C_nil _ _)
theorem FK_on {α : Type} {d : Kd α} {w w' : World} {P : Nat → Prop} {x : α} {cs : List Value} (h : Kd.FK d w P x cs) (hb : Below w.heap.size w w') : Kd.FK d w' (fun k => P k ∨ w.heap.size ≤ k) x cs := Foot.mono (Foot.step h (fun k _ hlt => hb.block k hlt)) (fun k hk => .inl hk)
theorem cells3 {w : World} {g : Nat} {t : TypeId} {u0 u1 u2 : Value} (h : w.heap[g]? = some (Obj.cells #[u0, u1, u2] t (0, 0))) : w.cell? ⟨g, 0, none⟩ = some u0 ∧ w.cell? ⟨g, 1, none⟩ = some u1 ∧ w.cell? ⟨g, 2, none⟩ = some u2 := by
 have c0:=blk_cell h 0
 have c1:=blk_cell h 1
 have c2:=blk_cell h 2
 simp only [List.getElem?_toArray,List.getElem?_cons_zero,List.getElem?_cons_succ] at c0 c1 c2
 exact ⟨c0,c1,c2⟩
theorem cells5 {w : World} {g : Nat} {t : TypeId} {u0 u1 u2 u3 u4 : Value} (h : w.heap[g]? = some (Obj.cells #[u0, u1, u2, u3, u4] t (0, 0))) : w.cell? ⟨g, 0, none⟩ = some u0 ∧ w.cell? ⟨g, 1, none⟩ = some u1 ∧ w.cell? ⟨g, 2, none⟩ = some u2 ∧ w.cell? ⟨g, 3, none⟩ = some u3 ∧ w.cell? ⟨g, 4, none⟩ = some u4 := by
 have c0:=blk_cell h 0
 have c1:=blk_cell h 1
 have c2:=blk_cell h 2
 have c3:=blk_cell h 3
 have c4:=blk_cell h 4
 simp only [List.getElem?_toArray,List.getElem?_cons_zero,List.getElem?_cons_succ] at c0 c1 c2 c3 c4
 exact ⟨c0,c1,c2,c3,c4⟩
theorem cells6 {w : World} {g : Nat} {t : TypeId} {u0 u1 u2 u3 u4 u5 : Value} (h : w.heap[g]? = some (Obj.cells #[u0, u1, u2, u3, u4, u5] t (0, 0))) : w.cell? ⟨g, 0, none⟩ = some u0 ∧ w.cell? ⟨g, 1, none⟩ = some u1 ∧ w.cell? ⟨g, 2, none⟩ = some u2 ∧ w.cell? ⟨g, 3, none⟩ = some u3 ∧ w.cell? ⟨g, 4, none⟩ = some u4 ∧ w.cell? ⟨g, 5, none⟩ = some u5 := by
 have c0:=blk_cell h 0
 have c1:=blk_cell h 1
 have c2:=blk_cell h 2
 have c3:=blk_cell h 3
 have c4:=blk_cell h 4
 have c5:=blk_cell h 5
 simp only [List.getElem?_toArray,List.getElem?_cons_zero,List.getElem?_cons_succ] at c0 c1 c2 c3 c4 c5
 exact ⟨c0,c1,c2,c3,c4,c5⟩
theorem cells7 {w : World} {g : Nat} {t : TypeId} {u0 u1 u2 u3 u4 u5 u6 : Value} (h : w.heap[g]? = some (Obj.cells #[u0, u1, u2, u3, u4, u5, u6] t (0, 0))) : w.cell? ⟨g, 0, none⟩ = some u0 ∧ w.cell? ⟨g, 1, none⟩ = some u1 ∧ w.cell? ⟨g, 2, none⟩ = some u2 ∧ w.cell? ⟨g, 3, none⟩ = some u3 ∧ w.cell? ⟨g, 4, none⟩ = some u4 ∧ w.cell? ⟨g, 5, none⟩ = some u5 ∧ w.cell? ⟨g, 6, none⟩ = some u6 := by
 have c0:=blk_cell h 0
 have c1:=blk_cell h 1
 have c2:=blk_cell h 2
 have c3:=blk_cell h 3
 have c4:=blk_cell h 4
 have c5:=blk_cell h 5
 have c6:=blk_cell h 6
 simp only [List.getElem?_toArray,List.getElem?_cons_zero,List.getElem?_cons_succ] at c0 c1 c2 c3 c4 c5 c6
 exact ⟨c0,c1,c2,c3,c4,c5,c6⟩
def knownC (l : List S33) (name : ByteArray) : S33 := (l.find? (isC name)).getD z33
def hasC (l : List S33) (name : ByteArray) : Bool := (l.find? (isC name)).isSome
theorem hier_known (P : Nat → Prop) (A0 : Option Addr) (c0 : Nat) (l0 : List S33) (A1 : Option Addr) (c1 : Nat) (l1 : List ByteArray) (a2 a3 a4 : ByteArray) (a1 : ByteArray) (w : World) (hs : Kd.F k33 w P A0 l0.length l0) (hc : l0.length ≤ c0) (hr1 : Kd.C Kd.string w A1 l1.length l1) (hc1 : l1.length ≤ c1) :
  Calls Try.prog 55 #[.agg (pG A0 l0 c0 A1 l1 c1 a2 a3 a4),.string a1] w fun e w' => ∃ A4 c4 A5 c5 A6 c6,e = .returned (.tuple #[.agg #[.string (knownC l0 a1).f0,.string (knownC l0 a1).f1,.bool (knownC l0 a1).f2,.bool (knownC l0 a1).f3,.slice A4 (knownC l0 a1).f4.length c4,.slice A5 (knownC l0 a1).f5.length c5,.slice A6 (knownC l0 a1).f6.length c6],.bool (hasC l0 a1)]) ∧ Kd.FK k33 w' (fun k => P k ∨ w.heap.size ≤ k) (knownC l0 a1) [.string (knownC l0 a1).f0,.string (knownC l0 a1).f1,.bool (knownC l0 a1).f2,.bool (knownC l0 a1).f3,.slice A4 (knownC l0 a1).f4.length c4,.slice A5 (knownC l0 a1).f5.length c5,.slice A6 (knownC l0 a1).f6.length c6] ∧ Below w.heap.size w w':=by
 have HN:=aq (fun W (hW : Below w.heap.size w W) => norm_Class.calls A0 c0 l0 A1 c1 l1 a2 a3 a4 a1 _ W (Kd.C_below (Kd.F_now hs) hW) hc (Kd.C_below hr1 hW) hc1 rfl)
 clear hr1
 rcases idxI_cases (isC a1) l0 with ⟨hn,hf⟩|⟨i,hi,hn,hf⟩
 ·
  rw [hn] at HN
  have hx : knownC l0 a1 = z33:=by unfold knownC;rw [hf];rfl
  have hh : hasC l0 a1 = false:=by unfold hasC;rw [hf];rfl
  rw [hx,hh]
  clear hx hh hf hn hs
  go_enter Try.func55,Try.ntmps55
  go_wp2_with fail
  refine (HN.out _ (below_alloc (below_alloc (Below.refl _ _) _) _)).mono ?_
  rintro e w1 ⟨rfl,hb⟩
  have HB:=aq (below_step (below_alloc (below_alloc (Below.refl w.heap.size w) (Obj.cells (pG A0 l0 c0 A1 l1 c1 a2 a3 a4) 27)) (Obj.cells #[.string ⟨#[]⟩,.string ⟨#[]⟩,.bool false,.bool false,.slice none 0 0,.slice none 0 0,.slice none 0 0] 33)) hb)
  have hz:=blk_below (World.alloc_heap_new (w.alloc (Obj.cells (pG A0 l0 c0 A1 l1 c1 a2 a3 a4) 27)) (Obj.cells #[.string ⟨#[]⟩,.string ⟨#[]⟩,.bool false,.bool false,.slice none 0 0,.slice none 0 0,.slice none 0 0] 33)) hb
  rw [World.size_alloc] at hz
  have HZ:=aq hz
  clear hz
  have hp0:=blk_cell (blk_below (blk_alloc (World.alloc_heap_new w (Obj.cells (pG A0 l0 c0 A1 l1 c1 a2 a3 a4) 27)) (Obj.cells #[.string ⟨#[]⟩,.string ⟨#[]⟩,.bool false,.bool false,.slice none 0 0,.slice none 0 0,.slice none 0 0] 33)) hb) 0
  simp only [List.getElem?_toArray,List.getElem?_cons_zero] at hp0
  obtain ⟨z0,z1,z2,z3,z4,z5,z6⟩:=cells7 HZ.out
  have zf:=blk_frozen HZ.out
  clear hb
  go_wp2_with fail
  exact bodyPost_ret (results_ct rfl _ _ (w.heap.size + 1) 33 #[.string ⟨#[]⟩,.string ⟨#[]⟩,.bool false,.bool false,.slice none 0 0,.slice none 0 0,.slice none 0 0] (0,0) _ rfl (set7_own HZ.out _ _ _ _ _ _ _) Try.underlying33 rfl (by kernel_rfl)) rfl ⟨_,_,_,_,_,_,rfl,zero_class _ _,set7_below HB.out (Nat.le_succ _) _ _ _ _ _ _ _⟩
 ·
  rw [hn] at HN
  have hx : knownC l0 a1 = l0[i]:=by unfold knownC;rw [hf];rfl
  have hh : hasC l0 a1 = true:=by unfold hasC;rw [hf];rfl
  obtain ⟨ad,A4,c4,A5,c5,A6,c6,rfl,hAt,hFK⟩:=ClAt_of hs hi
  rw [hx,hh]
  obtain ⟨x,hxe⟩ : ∃ x,l0[i] = x:=⟨_,rfl⟩
  rw [hxe] at hAt hFK ⊢
  have HAT:=aq hAt
  have HFK:=aq hFK
  have d1 : decide ((i : Int) < 0) = false:=decide_eq_false (by omega)
  have d2 : decide ((i : Int) ≥ 0) = true:=decide_eq_true (by omega)
  have d3 : (0 : Int) ≤ (i : Int):=by omega
  have d4 : (i : Int) < (l0.length : Int):=by omega
  clear hx hh hf hn hs hxe hAt hFK
  go_enter Try.func55,Try.ntmps55
  go_wp2_with fail
  refine (HN.out _ (below_alloc (below_alloc (Below.refl _ _) _) _)).mono ?_
  rintro e w1 ⟨rfl,hb⟩
  have HB:=aq (below_step (below_alloc (below_alloc (Below.refl w.heap.size w) (Obj.cells #[.slice (some ad) l0.length c0,.slice A1 l1.length c1,.string a2,.string a3,.string a4] 27)) (Obj.cells #[.string ⟨#[]⟩,.string ⟨#[]⟩,.bool false,.bool false,.slice none 0 0,.slice none 0 0,.slice none 0 0] 33)) hb)
  have hz:=blk_below (World.alloc_heap_new (w.alloc (Obj.cells #[.slice (some ad) l0.length c0,.slice A1 l1.length c1,.string a2,.string a3,.string a4] 27)) (Obj.cells #[.string ⟨#[]⟩,.string ⟨#[]⟩,.bool false,.bool false,.slice none 0 0,.slice none 0 0,.slice none 0 0] 33)) hb
  rw [World.size_alloc] at hz
  have HZ:=aq hz
  clear hz
  have hp0:=blk_cell (blk_below (blk_alloc (World.alloc_heap_new w (Obj.cells #[.slice (some ad) l0.length c0,.slice A1 l1.length c1,.string a2,.string a3,.string a4] 27)) (Obj.cells #[.string ⟨#[]⟩,.string ⟨#[]⟩,.bool false,.bool false,.slice none 0 0,.slice none 0 0,.slice none 0 0] 33)) hb) 0
  simp only [List.getElem?_toArray,List.getElem?_cons_zero] at hp0
  obtain ⟨z0,z1,z2,z3,z4,z5,z6⟩:=cells7 HZ.out
  have zf:=blk_frozen HZ.out
  clear hb
  obtain ⟨h0,h1,h2,h3,h4,h5,h6⟩:=HAT.out.below HB.out
  go_wp2_with fail
  exact bodyPost_ret (results_ct rfl _ _ (w.heap.size + 1) 33 (zC x A4 c4 A5 c5 A6 c6) (0,0) _ rfl (set7_own HZ.out _ _ _ _ _ _ _) Try.underlying33 rfl (by kernel_rfl)) rfl ⟨_,_,_,_,_,_,rfl,FK_on HFK.out (set7_below HB.out (Nat.le_succ _) _ _ _ _ _ _ _),set7_below HB.out (Nat.le_succ _) _ _ _ _ _ _ _⟩
theorem find_known (P : Nat → Prop) (A0 : Option Addr) (c0 : Nat) (l0 : List S33) (A1 : Option Addr) (c1 : Nat) (l1 : List ByteArray) (a2 a3 a4 : ByteArray) (a1 : ByteArray) (w : World) (hs : Kd.F k33 w P A0 l0.length l0) (hc : l0.length ≤ c0) (hr1 : Kd.C Kd.string w A1 l1.length l1) (hc1 : l1.length ≤ c1) :
  Calls Try.prog 35 #[.agg (pG A0 l0 c0 A1 l1 c1 a2 a3 a4),.string a1] w fun e w' => ∃ A4 c4 A5 c5 A6 c6,e = .returned (.agg #[.string (knownC l0 a1).f0,.string (knownC l0 a1).f1,.bool (knownC l0 a1).f2,.bool (knownC l0 a1).f3,.slice A4 (knownC l0 a1).f4.length c4,.slice A5 (knownC l0 a1).f5.length c5,.slice A6 (knownC l0 a1).f6.length c6]) ∧ Kd.FK k33 w' (fun k => P k ∨ w.heap.size ≤ k) (knownC l0 a1) [.string (knownC l0 a1).f0,.string (knownC l0 a1).f1,.bool (knownC l0 a1).f2,.bool (knownC l0 a1).f3,.slice A4 (knownC l0 a1).f4.length c4,.slice A5 (knownC l0 a1).f5.length c5,.slice A6 (knownC l0 a1).f6.length c6] ∧ Below w.heap.size w w':=by
 have HN:=aq (fun W (hW : Below w.heap.size w W) => norm_Class.calls A0 c0 l0 A1 c1 l1 a2 a3 a4 a1 _ W (Kd.C_below (Kd.F_now hs) hW) hc (Kd.C_below hr1 hW) hc1 rfl)
 clear hr1
 rcases idxI_cases (isC a1) l0 with ⟨hn,hf⟩|⟨i,hi,hn,hf⟩
 ·
  rw [hn] at HN
  have hx : knownC l0 a1 = z33:=by unfold knownC;rw [hf];rfl
  have hh : hasC l0 a1 = false:=by unfold hasC;rw [hf];rfl
  rw [hx]
  clear hx hh hf hn hs
  go_enter Try.func35,Try.ntmps35
  go_wp2_with fail
  refine (HN.out _ (below_alloc (below_alloc (Below.refl _ _) _) _)).mono ?_
  rintro e w1 ⟨rfl,hb⟩
  have HB:=aq (below_step (below_alloc (below_alloc (Below.refl w.heap.size w) (Obj.cells (pG A0 l0 c0 A1 l1 c1 a2 a3 a4) 27)) (Obj.cells #[.string ⟨#[]⟩,.string ⟨#[]⟩,.bool false,.bool false,.slice none 0 0,.slice none 0 0,.slice none 0 0] 33)) hb)
  have hz:=blk_below (World.alloc_heap_new (w.alloc (Obj.cells (pG A0 l0 c0 A1 l1 c1 a2 a3 a4) 27)) (Obj.cells #[.string ⟨#[]⟩,.string ⟨#[]⟩,.bool false,.bool false,.slice none 0 0,.slice none 0 0,.slice none 0 0] 33)) hb
  rw [World.size_alloc] at hz
  have HZ:=aq hz
  clear hz
  have hp0:=blk_cell (blk_below (blk_alloc (World.alloc_heap_new w (Obj.cells (pG A0 l0 c0 A1 l1 c1 a2 a3 a4) 27)) (Obj.cells #[.string ⟨#[]⟩,.string ⟨#[]⟩,.bool false,.bool false,.slice none 0 0,.slice none 0 0,.slice none 0 0] 33)) hb) 0
  simp only [List.getElem?_toArray,List.getElem?_cons_zero] at hp0
  obtain ⟨z0,z1,z2,z3,z4,z5,z6⟩:=cells7 HZ.out
  have zf:=blk_frozen HZ.out
  clear hb
  go_wp2_with fail
  exact bodyPost_ret (results_cell_row rfl _ _ (w.heap.size + 1) 33 #[.string ⟨#[]⟩,.string ⟨#[]⟩,.bool false,.bool false,.slice none 0 0,.slice none 0 0,.slice none 0 0] (0,0) _ rfl (set7_own HZ.out _ _ _ _ _ _ _) Try.underlying33 rfl (by kernel_rfl)) rfl ⟨_,_,_,_,_,_,rfl,zero_class _ _,set7_below HB.out (Nat.le_succ _) _ _ _ _ _ _ _⟩
 ·
  rw [hn] at HN
  have hx : knownC l0 a1 = l0[i]:=by unfold knownC;rw [hf];rfl
  have hh : hasC l0 a1 = true:=by unfold hasC;rw [hf];rfl
  obtain ⟨ad,A4,c4,A5,c5,A6,c6,rfl,hAt,hFK⟩:=ClAt_of hs hi
  rw [hx]
  obtain ⟨x,hxe⟩ : ∃ x,l0[i] = x:=⟨_,rfl⟩
  rw [hxe] at hAt hFK ⊢
  have HAT:=aq hAt
  have HFK:=aq hFK
  have d1 : decide ((i : Int) < 0) = false:=decide_eq_false (by omega)
  have d2 : decide ((i : Int) ≥ 0) = true:=decide_eq_true (by omega)
  have d3 : (0 : Int) ≤ (i : Int):=by omega
  have d4 : (i : Int) < (l0.length : Int):=by omega
  clear hx hh hf hn hs hxe hAt hFK
  go_enter Try.func35,Try.ntmps35
  go_wp2_with fail
  refine (HN.out _ (below_alloc (below_alloc (Below.refl _ _) _) _)).mono ?_
  rintro e w1 ⟨rfl,hb⟩
  have HB:=aq (below_step (below_alloc (below_alloc (Below.refl w.heap.size w) (Obj.cells #[.slice (some ad) l0.length c0,.slice A1 l1.length c1,.string a2,.string a3,.string a4] 27)) (Obj.cells #[.string ⟨#[]⟩,.string ⟨#[]⟩,.bool false,.bool false,.slice none 0 0,.slice none 0 0,.slice none 0 0] 33)) hb)
  have hz:=blk_below (World.alloc_heap_new (w.alloc (Obj.cells #[.slice (some ad) l0.length c0,.slice A1 l1.length c1,.string a2,.string a3,.string a4] 27)) (Obj.cells #[.string ⟨#[]⟩,.string ⟨#[]⟩,.bool false,.bool false,.slice none 0 0,.slice none 0 0,.slice none 0 0] 33)) hb
  rw [World.size_alloc] at hz
  have HZ:=aq hz
  clear hz
  have hp0:=blk_cell (blk_below (blk_alloc (World.alloc_heap_new w (Obj.cells #[.slice (some ad) l0.length c0,.slice A1 l1.length c1,.string a2,.string a3,.string a4] 27)) (Obj.cells #[.string ⟨#[]⟩,.string ⟨#[]⟩,.bool false,.bool false,.slice none 0 0,.slice none 0 0,.slice none 0 0] 33)) hb) 0
  simp only [List.getElem?_toArray,List.getElem?_cons_zero] at hp0
  obtain ⟨z0,z1,z2,z3,z4,z5,z6⟩:=cells7 HZ.out
  have zf:=blk_frozen HZ.out
  clear hb
  obtain ⟨h0,h1,h2,h3,h4,h5,h6⟩:=HAT.out.below HB.out
  go_wp2_with fail
  exact bodyPost_ret (results_cell_row rfl _ _ (w.heap.size + 1) 33 (zC x A4 c4 A5 c5 A6 c6) (0,0) _ rfl (set7_own HZ.out _ _ _ _ _ _ _) Try.underlying33 rfl (by kernel_rfl)) rfl ⟨_,_,_,_,_,_,rfl,FK_on HFK.out (set7_below HB.out (Nat.le_succ _) _ _ _ _ _ _ _),set7_below HB.out (Nat.le_succ _) _ _ _ _ _ _ _⟩
def getM (l : List S33) (c n d : ByteArray) : S37 := ((knownC l c).f6.find? (isM n d)).getD z37
def hasM (l : List S33) (c n d : ByteArray) : Bool := ((knownC l c).f6.find? (isM n d)).isSome
theorem set6_far {w : World} {R k : Nat} (h : k ≠ R) (v0 v1 v2 v3 v4 v5 : Value) : ((((((w.setCell ⟨R, 0, none⟩ v0).setCell ⟨R, 1, none⟩ v1).setCell ⟨R, 2, none⟩ v2).setCell ⟨R, 3, none⟩ v3).setCell ⟨R, 4, none⟩ v4).setCell ⟨R, 5, none⟩ v5).heap[k]? = w.heap[k]? := by
 rw [Below.heap_setCell _ _ _ _ h,Below.heap_setCell _ _ _ _ h,Below.heap_setCell _ _ _ _ h,Below.heap_setCell _ _ _ _ h,Below.heap_setCell _ _ _ _ h,Below.heap_setCell _ _ _ _ h]
theorem find_get (P : Nat → Prop) (A0 : Option Addr) (c0 : Nat) (l0 : List S33) (A1 : Option Addr) (c1 : Nat) (l1 : List ByteArray) (a2 a3 a4 : ByteArray) (b0 b1 b2 : ByteArray) (w : World) (hs : Kd.F k33 w P A0 l0.length l0) (hc : l0.length ≤ c0) (hr1 : Kd.C Kd.string w A1 l1.length l1) (hc1 : l1.length ≤ c1) :
  Calls Try.prog 11 #[.agg (pG A0 l0 c0 A1 l1 c1 a2 a3 a4),.agg #[.string b0,.string b1,.string b2]] w fun e w' => ∃ A5 c5,e = .returned (.tuple #[.agg (zH (getM l0 b0 b1 b2) A5 c5),.bool (hasM l0 b0 b1 b2)]) ∧ Kd.FK k37 w' (fun k => P k ∨ w.heap.size ≤ k) (getM l0 b0 b1 b2) [.string (getM l0 b0 b1 b2).f0,.string (getM l0 b0 b1 b2).f1,.bool (getM l0 b0 b1 b2).f2,.bool (getM l0 b0 b1 b2).f3,.int .i64 (getM l0 b0 b1 b2).f4,.slice A5 (getM l0 b0 b1 b2).f5.length c5] ∧ Below w.heap.size w w':=by
 have HK:=aq (find_known (fun k => P k ∧ k < w.heap.size) A0 c0 l0 A1 c1 l1 a2 a3 a4 b0 (((w.alloc (Obj.cells (pG A0 l0 c0 A1 l1 c1 a2 a3 a4) 27)).alloc (Obj.cells #[.string b0,.string b1,.string b2] 25)).alloc (Obj.cells zM 37)) (Kd.F_below (Kd.F_bound hs) (below_alloc (below_alloc (below_alloc (Below.refl _ _) _) _) _)) hc (Kd.C_below hr1 (below_alloc (below_alloc (below_alloc (Below.refl _ _) _) _) _)) hc1)
 have HM : Aside0 ((((w.alloc (Obj.cells (pG A0 l0 c0 A1 l1 c1 a2 a3 a4) 27)).alloc (Obj.cells #[.string b0,.string b1,.string b2] 25)).alloc (Obj.cells zM 37)).heap[w.heap.size + 1]? = some (Obj.cells #[.string b0,.string b1,.string b2] 25 (0,0))):=⟨by
  have h:=World.alloc_heap_new (w.alloc (Obj.cells (pG A0 l0 c0 A1 l1 c1 a2 a3 a4) 27)) (Obj.cells #[.string b0,.string b1,.string b2] 25)
  rw [World.size_alloc] at h
  exact blk_alloc h _⟩
 have HZ : Aside0 ((((w.alloc (Obj.cells (pG A0 l0 c0 A1 l1 c1 a2 a3 a4) 27)).alloc (Obj.cells #[.string b0,.string b1,.string b2] 25)).alloc (Obj.cells zM 37)).heap[w.heap.size + 1 + 1]? = some (Obj.cells zM 37 (0,0))):=⟨by
  have h:=World.alloc_heap_new ((w.alloc (Obj.cells (pG A0 l0 c0 A1 l1 c1 a2 a3 a4) 27)).alloc (Obj.cells #[.string b0,.string b1,.string b2] 25)) (Obj.cells zM 37)
  rw [World.size_alloc,World.size_alloc] at h
  exact h⟩
 unfold getM hasM
 obtain ⟨x,hx⟩ : ∃ x,knownC l0 b0 = x:=⟨_,rfl⟩
 rw [hx] at HK ⊢
 clear hx hr1 hs
 rcases idxI_cases (isM b1 b2) x.f6 with ⟨hn,hf⟩|⟨i,hi,hn,hf⟩
 ·
  have HN:=aq hn
  have hy : (x.f6.find? (isM b1 b2)).getD z37 = z37:=by rw [hf];rfl
  have hh : (x.f6.find? (isM b1 b2)).isSome = false:=by rw [hf];rfl
  rw [hy,hh]
  clear hy hh hf hn
  go_enter Try.func11,Try.ntmps11
  go_wp2_with fail
  refine (HK.out).mono ?_
  rintro e w1 ⟨A4,c4,A5,c5,A6,c6,rfl,hFK,hb1⟩
  have HB1:=aq (below_step (below_alloc (below_alloc (below_alloc (Below.refl w.heap.size w) (Obj.cells (pG A0 l0 c0 A1 l1 c1 a2 a3 a4) 27)) (Obj.cells #[.string b0,.string b1,.string b2] 25)) (Obj.cells zM 37)) hb1)
  have HZ1:=aq (blk_below HZ.out hb1)
  obtain ⟨e0,e1,e2⟩:=cells3 (blk_below HM.out hb1)
  have hl1 : w.heap.size + 1 < w1.heap.size:=blk_lt (blk_below HM.out hb1)
  have hl2 : w.heap.size + 1 + 1 < w1.heap.size:=blk_lt HZ1.out
  have HFK:=aq hFK
  clear hb1 hFK
  go_wp2_with fail
  have HO:=aq (class_opens HFK.out)
  have HNM:=aq (norm_Method.calls x.f0 x.f1 x.f2 x.f3 A4 c4 x.f4 A5 c5 x.f5 A6 c6 x.f6 b1 b2 _ (w1.alloc (Obj.cells (zC x A4 c4 A5 c5 A6 c6) 33)) (Kd.C_below HO.out.2.1 (below_alloc (Below.refl _ _) _)) HO.out.1 (Kd.C_below HO.out.2.2.2.1 (below_alloc (Below.refl _ _) _)) HO.out.2.2.1 (Kd.C_below HO.out.2.2.2.2.2 (below_alloc (Below.refl _ _) _)) HO.out.2.2.2.2.1 rfl)
  rw [HN.out] at HNM
  refine (HNM.out).mono ?_
  rintro e w2 ⟨rfl,hb2⟩
  have HB12:=aq (below_step (below_alloc (Below.refl w1.heap.size w1) (Obj.cells (zC x A4 c4 A5 c5 A6 c6) 33)) hb2)
  have HB2:=aq (below_step HB1.out HB12.out)
  have HZ2:=aq (blk_below HZ1.out HB12.out)
  obtain ⟨z0,z1,z2,z3,z4,z5⟩:=cells6 HZ2.out
  have zf:=blk_frozen HZ2.out
  obtain ⟨k0,k1,k2,k3,k4,k5,k6⟩:=cells7 (blk_below (World.alloc_heap_new w1 (Obj.cells (zC x A4 c4 A5 c5 A6 c6) 33)) hb2)
  clear hb2 e0 e1 e2 HNM HO k0 k1 k2 k3 k4 k5
  go_wp2_with fail
  exact bodyPost_ret (results_ct rfl _ _ (w.heap.size + 1 + 1) 37 zM (0,0) _ rfl (set6_own HZ2.out _ _ _ _ _ _) Try.underlying37 rfl (by kernel_rfl)) rfl ⟨_,_,rfl,zero_method _ _,set6_below HB2.out (by omega) _ _ _ _ _ _⟩
 ·
  have HN:=aq hn
  have hy : (x.f6.find? (isM b1 b2)).getD z37 = x.f6[i]:=by rw [hf];rfl
  have hh : (x.f6.find? (isM b1 b2)).isSome = true:=by rw [hf];rfl
  rw [hy,hh]
  clear hy hh hf hn
  have d2 : decide ((i : Int) ≥ 0) = true:=decide_eq_true (by omega)
  have d3 : (0 : Int) ≤ (i : Int):=by omega
  have d4 : (i : Int) < (x.f6.length : Int):=by omega
  have HI:=aq hi
  obtain ⟨y,hye⟩ : ∃ y,x.f6[i] = y:=⟨_,rfl⟩
  rw [hye]
  have HYE:=aq hye
  clear hye
  go_enter Try.func11,Try.ntmps11
  go_wp2_with fail
  refine (HK.out).mono ?_
  rintro e w1 ⟨A4,c4,A5,c5,A6,c6,rfl,hFK,hb1⟩
  have HB1:=aq (below_step (below_alloc (below_alloc (below_alloc (Below.refl w.heap.size w) (Obj.cells (pG A0 l0 c0 A1 l1 c1 a2 a3 a4) 27)) (Obj.cells #[.string b0,.string b1,.string b2] 25)) (Obj.cells zM 37)) hb1)
  have HZ1:=aq (blk_below HZ.out hb1)
  obtain ⟨e0,e1,e2⟩:=cells3 (blk_below HM.out hb1)
  have hl1 : w.heap.size + 1 < w1.heap.size:=blk_lt (blk_below HM.out hb1)
  have hl2 : w.heap.size + 1 + 1 < w1.heap.size:=blk_lt HZ1.out
  have HFK:=aq hFK
  clear hb1 hFK
  go_wp2_with fail
  have HO:=aq (class_opens HFK.out)
  have HNM:=aq (norm_Method.calls x.f0 x.f1 x.f2 x.f3 A4 c4 x.f4 A5 c5 x.f5 A6 c6 x.f6 b1 b2 _ (w1.alloc (Obj.cells (zC x A4 c4 A5 c5 A6 c6) 33)) (Kd.C_below HO.out.2.1 (below_alloc (Below.refl _ _) _)) HO.out.1 (Kd.C_below HO.out.2.2.2.1 (below_alloc (Below.refl _ _) _)) HO.out.2.2.1 (Kd.C_below HO.out.2.2.2.2.2 (below_alloc (Below.refl _ _) _)) HO.out.2.2.2.2.1 rfl)
  rw [HN.out] at HNM
  refine (HNM.out).mono ?_
  rintro e w2 ⟨rfl,hb2⟩
  have HB12:=aq (below_step (below_alloc (Below.refl w1.heap.size w1) (Obj.cells (zC x A4 c4 A5 c5 A6 c6) 33)) hb2)
  have HB2:=aq (below_step HB1.out HB12.out)
  have HZ2:=aq (blk_below HZ1.out HB12.out)
  obtain ⟨z0,z1,z2,z3,z4,z5⟩:=cells6 HZ2.out
  have zf:=blk_frozen HZ2.out
  obtain ⟨k0,k1,k2,k3,k4,k5,k6⟩:=cells7 (blk_below (World.alloc_heap_new w1 (Obj.cells (zC x A4 c4 A5 c5 A6 c6) 33)) hb2)
  clear hb2 e0 e1 e2 HNM HO k0 k1 k2 k3 k4 k5
  obtain ⟨ad,B5,d5,hA,hAt,hFM⟩:=MeAt_of (class_methods HFK.out) HI.out
  subst hA
  rw [HYE.out] at hAt hFM
  obtain ⟨h0,h1,h2,h3,h4,h5⟩:=hAt.below HB12.out
  have HFM:=aq hFM
  clear hAt hFM
  go_wp2_with fail
  exact bodyPost_ret (results_ct rfl _ _ (w.heap.size + 1 + 1) 37 (zH y B5 d5) (0,0) _ rfl (set6_own HZ2.out _ _ _ _ _ _) Try.underlying37 rfl (by kernel_rfl)) rfl ⟨_,_,rfl,Foot.mono (Foot.step HFM.out (fun k hk hlt => (set6_far (by rcases hk with hk|hk;exact Nat.ne_of_lt (by omega);simp only [World.size_alloc] at hk;omega) _ _ _ _ _ _).trans (HB12.out.block k hlt))) (fun k hk => hk.elim (fun h => .inl h.1) (fun h => .inr (by simp only [World.size_alloc] at h;omega))),set6_below HB2.out (by omega) _ _ _ _ _ _⟩
end Go.Proofs.Ytfplcohjnlbfjaa.Hand
end

section
namespace Go.Proofs.Ytfplcohjnlbfjaa.Hand
open Go.RowKit Go.Shelf
variable {F : Fence} {n : Nat} {P : Program} {α : Type}
def Holds {β : Type} (b : Nat) (J : β → World → Prop) : Prop := ∀ s X Y, J s X → X.grownBy Y (some b) → J s Y
def HoldsAll {β : Type} (B b : Nat) (J : β → World → Prop) : Prop :=
 ∀ s X Y row,J s X → X.grownBy Y row → (∀ r,row = some r → r = b ∨ (B ≤ r ∧ ∃ o : Obj,X.heap[r]? = some o ∧ o.isCells = false)) → J s Y
theorem HoldsAll.box {β : Type} {B b : Nat} {J : β → World → Prop} (h : HoldsAll B b J) : Holds b J := fun s X Y hs hg => h s X Y _ hs hg (fun r e => .inl (by cases e; rfl))
theorem HoldsAll.put {β : Type} {B b : Nat} {J : β → World → Prop} (h : HoldsAll B b J) {s : β} {W : World} {l : Nat} {o : Obj} (o' : Obj) (hs : J s W) (hB : B ≤ l) (hl : W.heap[l]? = some o) (ho : o.isCells = false) : J s (W.putObj l o') :=
 h s W _ (some l) hs (grownBy_putObj' W l o') (fun r e => by cases e;exact .inr ⟨hB,o,hl,ho⟩)
theorem HoldsAll.lay {β : Type} {B b : Nat} {J : β → World → Prop} (h : HoldsAll B b J) {s : β} {W : World} (o : Obj) (hs : J s W) : J s (W.alloc o) :=
 h s W _ none hs (World.grownBy_alloc W o none) (fun r e => by cases e)
variable {F : Fence} {n : Nat} {P : Program} {α : Type}
def SeqMap (F : Fence) (n : Nat) (P : Program) (gf : Nat) (lb : Array Value) (encs : α → Array Value) (b N : Nat) (Kp : World → World → Prop) (A0 : World → Prop) (S Sp : List α → Prop) : Prop :=
 ∀ (l : Nat) (J Jx : List α → World → Prop) (W : World),A0 W → HoldsAll W.heap.size b J → HoldsAll W.heap.size b Jx →
  (∀ pre x X,J pre X → pre.length < N → YieldAt F (n - 1) P l (encs x) X fun e Y =>
   (e = .returned (.bool true) ∧ J (pre ++ [x]) Y ∧ Kp X Y) ∨ (e = .returned (.bool false) ∧ Jx (pre ++ [x]) Y)) →
  J [] W →
  CallsIn F n P gf (#[.func (.yield l) #[] #[]] ++ lb) W fun e Y => (∃ v,e = .returned v) ∧ ((∃ xs,S xs ∧ J xs Y) ∨ (∃ pre,Sp pre ∧ Jx pre Y))
theorem range_map {g : Operand} {ps : Array Tmp} {assign body : Code} {Q : Exit → Act → World → Prop} {a : Act} {w : World}
  (hro : F.round = none) (h1 : 1 ≤ n) {gf : Nat} {lb : Array Value} (hg : a.eval g = .func (.func gf) #[] lb) (hFg : F.fn gf) (eg : ∀ args w,(callFunc gf args).run P w = .ok (.enter gf args) w)
  {encs : α → Array Value} (hps : ∀ x,(encs x).size = ps.size) {b N : Nat} (hb : b < w.heap.size) {Kp : World → World → Prop} (hKt : ∀ {A B C : World},Kp A B → Kp B C → Kp A C) (hKb : ∀ (W : World) (l : Nat) (o o' : Obj),w.heap.size ≤ l → W.heap[l]? = some o → o.isCells = false → o.isWalk = false → Kp W (W.putObj l o')) {A0 : World → Prop} {S Sp : List α → Prop} (hseq : SeqMap F (n - 1) P gf lb encs b N Kp A0 S Sp)
  (hA : ∀ W,Below w.heap.size w W → A0 W)
  (I : List α → World → Prop) (Ix : Code → List α → World → Prop) (hI : HoldsAll w.heap.size b I) (hIx : ∀ c,HoldsAll w.heap.size b (Ix c)) (h0 : I [] w) (a₁ : α → Act)
  (hassign : ∀ (l : Nat) (x : α) (W : World) (K : Act → World → Prop),K (a₁ x) W →
   assign.wpIn (F.inRound l) (n - 1 - 1) P (Exit.then K (fun _ _ _ => False)) { tmps:=(ps.zip (encs x)).foldl (fun t (p,v) => t.setIfInBounds p v) a.tmps,defers:=[] } W)
  (hbody : ∀ (l : Nat) (pre : List α) (x : α) (W : World),I pre W → pre.length < N → body.wpIn (F.inRound l) (n - 1 - 1) P (ownPostK Kp I Ix (pre ++ [x]) W) (a₁ x) W)
  (hdone : ∀ (D : Nat) (xs : List α) (W : World),w.heap.size ≤ D → S xs → I xs W → W.heap[D]? = some (.deferred (some [])) → Q .normal { a with defers:={ target:=.collected D,args:=#[] } :: a.defers } W)
  (hstop : ∀ (D : Nat) (c : Code) (pre : List α) (W : World),w.heap.size ≤ D → Sp pre → Ix c pre W → W.heap[D]? = some (.deferred (some [])) → c.wpIn F n P Q { a with defers:={ target:=.collected D,args:=#[] } :: a.defers } W) :
  (Code.rangeFunc g ps assign body).wpIn F n P Q a w:=by
 refine wpIn_rangeFunc fun fn hfn => ?_
 rw [hro]
 let R0 : Loop:={ state:=.ready,pending:=none,fn:=fn,tmps:=a.tmps,params:=ps,assign:=assign,body:=body,defers:=w.heap.size }
 obtain ⟨R,hR⟩ : ∃ R : Loop,R = R0:=⟨_,rfl⟩
 obtain ⟨L,hL⟩ : ∃ L,L = w.heap.size + 1:=⟨_,rfl⟩
 obtain ⟨W1,hW1⟩ : ∃ W1,W1 = (w.alloc (.deferred (some []))).alloc (.loop R):=⟨_,rfl⟩
 have hbk : Below w.heap.size w W1:=hW1 ▸ ((Below.refl _ w).alloc (Nat.le_refl _) _).alloc (by simp) _
 have hLoop : W1.heap[L]? = some (.loop R):=by
  have:=World.alloc_heap_new (w.alloc (.deferred (some []))) (.loop R)
  rw [World.size_alloc] at this
  rw [hW1,hL]
  exact this
 have hDef : W1.heap[w.heap.size]? = some (.deferred (some [])):=by
  rw [hW1]
  exact (Below.heap_alloc _ _ _ (by simp)).trans (World.alloc_heap_new w _)
 have hI1 : I [] W1:=hW1 ▸ hI.lay _ (hI.lay _ h0)
 -- what the loop's book-keeping keeps between two rounds, and behind the last one
 let Between : List α → World → Prop:=fun pre X => I pre X ∧ X.heap[L]? = some (.loop R) ∧ X.heap[w.heap.size]? = some (.deferred (some []))
 let Behind : List α → World → Prop:=fun pre X => ∃ c,Ix c pre X ∧ X.heap[L]? = some (.loop { R with state:=.done,pending:=some c }) ∧ X.heap[w.heap.size]? = some (.deferred (some []))
 have hsz : W1.heap.size = w.heap.size + 2:=by rw [hW1];simp
 have far : ∀ {X Y : World} {row : Option Nat} {i : Nat} {o : Obj},X.grownBy Y row → (∀ r,row = some r → r = b ∨ (W1.heap.size ≤ r ∧ ∃ o : Obj,X.heap[r]? = some o ∧ o.isCells = false)) → w.heap.size ≤ i → i < W1.heap.size → X.heap[i]? = some o → Y.heap[i]? = some o:=fun hg hr hi hi2 ho =>
  (hg.block _ (Array.getElem?_eq_some_iff.1 ho).1 (fun e => by rcases hr _ e.symm with h|h;omega;omega)).trans ho
 have hB1 : HoldsAll W1.heap.size b Between:=fun s X Y row hs hg hr => ⟨hI s X Y row hs.1 hg (fun r e => (hr r e).imp id (fun h => ⟨by omega,h.2⟩)),far hg hr (by omega) (by omega) hs.2.1,far hg hr (Nat.le_refl _) (by omega) hs.2.2⟩
 have hB2 : HoldsAll W1.heap.size b Behind:=fun s X Y row ⟨c,hc,hl,hd⟩ hg hr => ⟨c,hIx c s X Y row hc hg (fun r e => (hr r e).imp id (fun h => ⟨by omega,h.2⟩)),far hg hr (by omega) (by omega) hl,far hg hr (Nat.le_refl _) (by omega) hd⟩
 refine ⟨L,[{ target:=.collected w.heap.size,args:=#[] }],W1,{ target:=.fn (.func gf) lb,args:=#[.func (.yield L) #[] #[]] },W1,gf,#[.func (.yield L) #[] #[]] ++ lb,W1,?_,?_,?_,?_,fun _ => h1,?_⟩
 ·
  rw [hW1,hL,hR]
  exact run_enterLoop_outer _ _ _ _ _
 ·
  simp only [resolve,hg]
  simp [go_sem]
 ·
  intro f' hf'
  simp [Target.leads] at hf'
  exact hf' ▸ hFg
 ·
  simp [invoke,go_sem,eg]
 refine (hseq L Between Behind W1 (hA W1 hbk) hB1 hB2 ?_ ⟨hI1,hLoop,hDef⟩).mono ?_
 ·
  -- a round
  rintro pre x X ⟨hi,hl,hd⟩ hN
  have hy:=run_yield (P:=P) (args:=encs x) hl (by rw [hR];exact hps x)
  have hfn' : R.fn = fn:=by rw [hR]
  refine ⟨_,_,_,_,hy,roundIn_of_wpIn (by rw [hfn'];exact hfn) ?_⟩
  have e1 : R.assign = assign:=by rw [hR]
  have e2 : R.params = ps:=by rw [hR]
  have e3 : R.tmps = a.tmps:=by rw [hR]
  have e4 : R.body = body:=by rw [hR]
  have e5 : R.state = .ready:=by rw [hR]
  rw [e1,e2,e3,e4]
  refine hassign L x X _ ⟨_,run_beginRound hl e5,?_⟩
  have hlt : L < X.heap.size:=(Array.getElem?_eq_some_iff.1 hl).1
  obtain ⟨Z,hZ⟩ : ∃ Z,Z = X.putObj L (.loop { R with state:=.busy }):=⟨_,rfl⟩
  have hlZ : Z.heap[L]? = some (.loop { R with state:=.busy }):=by rw [hZ];exact World.putObj_heap_same hlt
  have hdZ : Z.heap[w.heap.size]? = some (.deferred (some [])):=by rw [hZ];exact (World.putObj_heap_other (by omega)).trans hd
  have hbZ : Kp X Z:=by rw [hZ];exact hKb X L _ _ (by omega) hl rfl rfl
  have hiZ : I pre Z:=by rw [hZ];exact hI.put _ hi (by omega) hl rfl
  rw [← hZ]
  refine wpIn_mono (hbody L pre x Z hiZ hN) ?_
  have ends : ∀ (j : Option Code) (Y : World),KeepsOthers Z Y → Y.heap[L]? = some (.loop { R with state:=.busy }) ∧
    (Instr.endRound L j).run P Y = .ok (.bool j.isNone) (Y.putObj L (.loop { R with state:=if j.isNone then .ready else .done,pending:=j })) ∧
    (Y.putObj L (.loop { R with state:=if j.isNone then .ready else .done,pending:=j })).heap[L]? = some (.loop { R with state:=if j.isNone then .ready else .done,pending:=j }) ∧
    (Y.putObj L (.loop { R with state:=if j.isNone then .ready else .done,pending:=j })).heap[w.heap.size]? = some (.deferred (some [])):=fun j Y hk => by
   have hlY:=hk.same _ _ hlZ rfl
   refine ⟨hlY,?_,World.putObj_heap_same (Array.getElem?_eq_some_iff.1 hlY).1,(World.putObj_heap_other (by omega)).trans (hk.same _ _ hdZ rfl)⟩
   exact run_endRound (P:=P) (r:={ R with state:=.busy }) j hlY
  have left : ∀ (c : Code) (Y : World),KeepsOthers Z Y → Ix c (pre ++ [x]) Y → ∃ v W',(Instr.endRound L (some c)).run P Y = .ok v W' ∧
    ((Ending.returned v = .returned (.bool true) ∧ Between (pre ++ [x]) W' ∧ Kp X W') ∨ (Ending.returned v = .returned (.bool false) ∧ Behind (pre ++ [x]) W')):=fun c Y hk hx => by
   obtain ⟨hlY,hr,hl2,hd2⟩:=ends (some c) Y hk
   exact ⟨_,_,hr,.inr ⟨rfl,c,(hIx c).put _ hx (by omega) hlY rfl,hl2,hd2⟩⟩
  rintro e a3 Y hp
  cases e with
  | normal =>
   obtain ⟨hk,hs,hi3⟩:=hp
   obtain ⟨hlY,hr,hl2,hd2⟩:=ends none Y hk
   have e6 : ({ R with state:=.ready,pending:=none } : Loop) = R:=by rw [hR]
   simp only [Option.isNone_none,if_true,e6] at hr hl2 hd2
   exact ⟨_,_,hr,.inl ⟨rfl,⟨hI.put _ hi3 (by omega) hlY rfl,hl2,hd2⟩,hKt hbZ (hKt hs (hKb Y L _ _ (by omega) hlY rfl rfl))⟩⟩
  | ret => exact left .ret Y hp.1 hp.2
  | exit id => exact left (.exit id) Y hp.1 hp.2
  | goto t => exact left (.goto t) Y hp.1 hp.2
  | panic ch => exact hp.elim
  | outgrown => exact hp.elim
 ·
  rintro e Y ⟨⟨v,rfl⟩,(⟨xs,hS,hi,hl,hd⟩|⟨pre,hSp,c,hx,hl,hd⟩)⟩
  ·
   have e5 : R.state ≠ .busy:=by rw [hR];simp [R0]
   have e7 : R.pending = none:=by rw [hR]
   have:=run_endLoop (P:=P) hl e5
   rw [e7] at this
   exact ⟨none,_,this,hdone _ xs _ (Nat.le_refl _) hS (hI.put _ hi (by omega) hl rfl) ((World.putObj_heap_other (by omega)).trans hd)⟩
  ·
   exact ⟨some c,_,run_endLoop (P:=P) hl (by simp),hstop _ c pre _ (Nat.le_refl _) hSp ((hIx c).put _ hx (by omega) hl rfl) ((World.putObj_heap_other (by omega)).trans hd)⟩
end Go.Proofs.Ytfplcohjnlbfjaa.Hand
end

section
namespace Go.Proofs.Ytfplcohjnlbfjaa.Hand
open Go.RowKit Go.Proofs.YtfplcohjnlbfjaaW
open PrintWords PrintLast PrintMore
def eqB (s x : ByteArray) : Bool := x.toList == s.toList
def HadMap (w : World) (mb : Nat) (had : List ByteArray) : Prop := ∃ (D : DataW Unit) (n : Nat), w.ownsMap Try.prog 9 (plainElem Try.prog 4) mb n D ∧ n = had.length ∧ Maps.IsMap D ∧ ∀ s : ByteArray, D.atKey (.string s.data.toList) (.lit (.bool false)) = .lit (.bool (had.any (eqB s)))
theorem HadMap.lt {w : World} {mb : Nat} {had : List ByteArray} (h : HadMap w mb had) : mb < w.heap.size := by
 obtain ⟨D,n,ho,_⟩:=h
 exact ho.lt
theorem HadMap.notCells {w : World} {mb : Nat} {had : List ByteArray} (h : HadMap w mb had) : ∃ o : Obj, w.heap[mb]? = some o ∧ o.isCells = false ∧ o.isWalk = true := by
 obtain ⟨D,n,⟨es,clock,hb,_⟩,_⟩:=h
 exact ⟨_,hb,rfl,rfl⟩
theorem HadMap.kept {w w' : World} {mb : Nat} {had : List ByteArray} {row : Option Nat} (h : HadMap w mb had) (hg : w.grownBy w' row) (hne : some mb ≠ row) : HadMap w' mb had := by
 obtain ⟨D,n,ho,r⟩:=h
 exact ⟨D,n,ho.kept hg hne,r⟩
theorem HadMap.same {w w' : World} {mb : Nat} {had : List ByteArray} (h : HadMap w mb had) (he : w'.heap[mb]? = w.heap[mb]?) : HadMap w' mb had := by
 obtain ⟨D,n,⟨es,clock,hb,r⟩,r2⟩:=h
 exact ⟨D,n,⟨es,clock,he.trans hb,r⟩,r2⟩
theorem HadMap.made (w : World) : HadMap (w.alloc (.map #[] 0)) w.heap.size [] := ⟨.map [], 0, World.ownsMap_made _ _ _ _, rfl, Maps.isMap_empty, fun s => rfl⟩
theorem plain_bool_inv {P : Program} {e : TypeId} (he : P.underlying e = some .bool) {v : Value} {c : Bool} {ps : List MemPlace} (h : plainElem (H := Unit) P e v = some (.lit (.bool c), ps)) : v = .bool c := by
 unfold plainElem at h
 rw [he] at h
 cases v <;> simp at h
 obtain ⟨rfl,_⟩:=h
 rfl
theorem bool_inv {v : Value} {c : Bool} {ps : List MemPlace} (h : plainElem (H := Unit) Try.prog 4 v = some (.lit (.bool c), ps)) : v = .bool c := plain_bool_inv Try.underlying4 h
theorem HadMap.look {w : World} {mb : Nat} {had : List ByteArray} (h : HadMap w mb had) (s : ByteArray) (hs : s.size ≤ maxLen) : (Instr.lookup 110 (.map (some mb)) (.string s) false).run Try.prog w = .ok (.bool (had.any (eqB s))) w := by
 obtain ⟨D,n,ho,_,_,hD⟩:=h
 obtain ⟨v,ps,hrun,hv⟩:=ho.lookup (t:=110) (e:=4) (Maps.string_keyed Try.underlying9) Try.underlying110 (z:=.bool false) (by simp [go_sem,Try.zeroValue4]) (plainElem_bool Try.underlying4 false) (WideMaps.keyOf_string_mk Try.underlying9 hs)
 rw [hD s] at hv
 rw [hrun,bool_inv hv]
theorem HadMap.put {w : World} {mb : Nat} {had : List ByteArray} (h : HadMap w mb had) (s : ByteArray) (hs : s.size ≤ maxLen) (hn : had.length < maxLen) : ∃ w', (Instr.mapUpdate 110 (.map (some mb)) (.string s) (.bool true)).run Try.prog w = .ok () w' ∧ HadMap w' mb (s :: had) ∧ w.grownBy w' (some mb) := by
 obtain ⟨D,n,ho,rfl,hM,hD⟩:=h
 obtain ⟨w',hrun,ho',hg⟩:=ho.update (t:=110) (e:=4) (Maps.string_keyed Try.underlying9) Try.underlying110 hn (WideMaps.keyOf_string_mk Try.underlying9 hs) (plainElem_bool Try.underlying4 true)
 refine ⟨w',hrun,⟨_,_,ho',rfl,hM.put _ _,fun x => ?_⟩,hg⟩
 by_cases he : x.data.toList = s.data.toList
 ·
  rw [he,Maps.atKey_put_same hM (by first|exact trivial|exact ⟨_,rfl⟩|simp [WideAt.IsKeyLit])]
  have : eqB x s = true:=by
   unfold eqB
   rw [ByteArray.toList_eq,ByteArray.toList_eq,he]
   exact beq_self_eq_true _
  rw [List.any_cons,this,Bool.true_or]
 ·
  rw [Maps.atKey_put_other (fun e => he (by injection e)),hD x,List.any_cons]
  have : eqB x s = false:=by
   unfold eqB
   rw [ByteArray.toList_eq,ByteArray.toList_eq]
   exact beq_eq_false_iff_ne.2 (fun e => he e.symm)
  rw [this,Bool.false_or]
def upF : Nat → List S33 → List ByteArray → ByteArray → List ByteArray
 | 0,_,_,_ => []
 | k + 1,l,had,nm => if hasC l nm = true ∧ had.any (eqB nm) = false then nm :: (if (knownC l nm).f1.size = 0 then [] else upF k l (nm :: had) (knownC l nm).f1) else []
def leftC (l : List S33) (had : List ByteArray) : Nat := l.countP fun c => !had.any (eqB c.f0)
theorem count_lt {α : Type} (p q : α → Bool) : ∀ l : List α, (∀ x ∈ l, q x = true → p x = true) → (∃ x ∈ l, p x = true ∧ q x = false) → l.countP q < l.countP p
 | [],_,h => by obtain ⟨x,hx,_⟩:=h;cases hx
 | a :: l,hqp,h => by
  have hle : l.countP q ≤ l.countP p:=List.countP_mono_left (fun x hx => hqp x (List.mem_cons_of_mem _ hx))
  rw [List.countP_cons,List.countP_cons]
  obtain ⟨x,hx,hp,hq⟩:=h
  rcases List.mem_cons.1 hx with rfl|hx
  ·
   rw [hp,hq]
   simp
   omega
  ·
   have ih:=count_lt p q l (fun x hx => hqp x (List.mem_cons_of_mem _ hx)) ⟨x,hx,hp,hq⟩
   have ha:=hqp a (by simp)
   cases hqa : q a with
   | true => rw [ha hqa];simp;omega
   | false => simp;omega
theorem has_mem {l : List S33} {nm : ByteArray} (h : hasC l nm = true) : ∃ c ∈ l, c.f0.data.toList = nm.data.toList := by
 unfold hasC at h
 obtain ⟨c,hc⟩:=Option.isSome_iff_exists.1 h
 refine ⟨c,List.mem_of_find?_eq_some hc,?_⟩
 have:=List.find?_some hc
 unfold isC at this
 rw [ByteArray.toList_eq,ByteArray.toList_eq] at this
 exact eq_of_beq this
theorem left_lt {l : List S33} {had : List ByteArray} {nm : ByteArray} (h : hasC l nm = true) (hh : had.any (eqB nm) = false) : leftC l (nm :: had) < leftC l had := by
 obtain ⟨c,hc,he⟩:=has_mem h
 have e1 : ∀ x,eqB c.f0 x = eqB nm x:=fun x => by
  unfold eqB
  rw [ByteArray.toList_eq,ByteArray.toList_eq,ByteArray.toList_eq,he]
 refine count_lt _ _ l (fun x _ hx => ?_) ⟨c,hc,?_,?_⟩
 ·
  simp only [List.any_cons,Bool.not_or,Bool.and_eq_true] at hx
  exact hx.2
 ·
  rw [show eqB c.f0 = eqB nm from funext e1,hh]
  rfl
 ·
  have : eqB c.f0 nm = true:=by
   rw [e1]
   exact beq_self_eq_true _
  simp [this]
end Go.Proofs.Ytfplcohjnlbfjaa.Hand
end

section
namespace Go.Proofs.Ytfplcohjnlbfjaa.Hand
open Go.RowKit Go.Shelf Go.Proofs.YtfplcohjnlbfjaaW.PrintWords Go.Proofs.YtfplcohjnlbfjaaW.PrintLast Go.Proofs.YtfplcohjnlbfjaaW.PrintMore
attribute [local go_sem] Oper.semAt_some
theorem toList_nil (s : ByteArray) : s.toList = [] ↔ s.size = 0 := by
 rw [ByteArray.toList_eq,List.eq_nil_iff_length_eq_zero,Array.length_toList]
 rfl
theorem had_one {w : World} {mb : Nat} {h1 h2 : List ByteArray} (a : HadMap w mb h1) (b : HadMap w mb h2) (s : ByteArray) : h1.any (eqB s) = h2.any (eqB s) := by
 obtain ⟨D,n,⟨es,ck,hb,_,_,rfl⟩,_,_,hD⟩:=a
 obtain ⟨D',n',⟨es',ck',hb',_,_,rfl⟩,_,_,hD'⟩:=b
 rw [hb] at hb'
 simp only [Option.some.injEq,Obj.map.injEq] at hb'
 obtain ⟨rfl,rfl⟩:=hb'
 have h:=hD s
 rw [hD' s] at h
 simp only [DataW.lit.injEq,Lit.bool.injEq] at h
 exact h.symm
noncomputable def metB (mb : Nat) (w : World) (s : ByteArray) : Bool := @decide (∃ had, HadMap w mb had ∧ had.any (eqB s) = true) (Classical.propDecidable _)
theorem met_eq {w : World} {mb : Nat} {had : List ByteArray} (h : HadMap w mb had) (s : ByteArray) : metB mb w s = had.any (eqB s) := by
 unfold metB
 cases hb : had.any (eqB s) with
 | true => exact @decide_eq_true _ (Classical.propDecidable _) ⟨had,h,hb⟩
 | false => exact @decide_eq_false _ (Classical.propDecidable _) (fun ⟨had',h',hb'⟩ => by rw [had_one h' h s,hb] at hb';cases hb')
noncomputable def leftM (mb : Nat) (l : List S33) (w : World) : Nat := l.countP fun c => !metB mb w c.f0
theorem leftM_eq {w : World} {mb : Nat} {had : List ByteArray} (h : HadMap w mb had) (l : List S33) : leftM mb l w = leftC l had := by
 unfold leftM leftC
 rw [show (fun c : S33 => !metB mb w c.f0) = fun c => !had.any (eqB c.f0) from funext fun c => by rw [met_eq h]]
structure AbW (w : World) (n0 b pb : Nat) (A0 : Option Addr) (c0 : Nat) (l0 : List S33) (A1 : Option Addr) (c1 : Nat) (l1 : List ByteArray) (a2 a3 a4 : ByteArray) : Prop where
 box : w.heap[pb]? = some (Obj.cells (pG A0 l0 c0 A1 l1 c1 a2 a3 a4) 27 (0,0))
 cls : Kd.F k33 w (fun k => k < n0 ∧ k ≠ b) A0 l0.length l0
 strs : Kd.F Kd.string w (fun k => k < n0 ∧ k ≠ b) A1 l1.length l1
theorem AbW.step {w w' : World} {n0 b pb : Nat} {A0 : Option Addr} {c0 : Nat} {l0 : List S33} {A1 : Option Addr} {c1 : Nat} {l1 : List ByteArray} {a2 a3 a4 : ByteArray} (h : AbW w n0 b pb A0 c0 l0 A1 c1 l1 a2 a3 a4) (hp : pb < n0) (hpb : pb ≠ b) (hs : ∀ k, k < n0 → k ≠ b → w'.heap[k]? = w.heap[k]?) : AbW w' n0 b pb A0 c0 l0 A1 c1 l1 a2 a3 a4 :=
 ⟨(hs pb hp hpb).trans h.box,Kd.F_step h.cls (fun k hk _ => hs k hk.1 hk.2),Kd.F_step h.strs (fun k hk _ => hs k hk.1 hk.2)⟩
def KpA (n0 : Nat) (X Y : World) : Prop := (∀ i, i < n0 → Y.heap[i]? = X.heap[i]?) ∧ KeepsWalks X Y ∧ ∀ (i : Nat) (cs : Array Value), X.heap[i]? = some (Obj.cells cs 33 (0, 0)) → Y.heap[i]? = some (Obj.cells cs 33 (0, 0))
theorem KpA.trans {n0 : Nat} {A B C : World} (h : KpA n0 A B) (k : KpA n0 B C) : KpA n0 A C := ⟨fun i hi => (k.1 i hi).trans (h.1 i hi), h.2.1.trans k.2.1, fun i cs hc => k.2.2 i cs (h.2.2 i cs hc)⟩
theorem KpA.put {n0 m : Nat} (hn : n0 ≤ m) (W : World) (l : Nat) (o o' : Obj) (hl : m ≤ l) (h : W.heap[l]? = some o) (hc : o.isCells = false) (hw : o.isWalk = false) : KpA n0 W (W.putObj l o') :=
 ⟨fun i hi => World.putObj_heap_other (by omega),KeepsWalks.putObj o' h hw,fun i cs hi => by
  have hne : i ≠ l:=by
   rintro rfl
   rw [h] at hi
   cases hi
   cases hc
  exact (World.putObj_heap_other hne).trans hi⟩
theorem above_seq (n n0 b pb : Nat) (nm0 : ByteArray) (A0 : Option Addr) (c0 : Nat) (l0 : List S33) (A1 : Option Addr) (c1 : Nat) (l1 : List ByteArray) (a2 a3 a4 : ByteArray) (hc0 : l0.length ≤ c0) (hc1 : l1.length ≤ c1) (hp : pb < n0) (hpb : pb ≠ b) (hb : b < n0) (hz : ∀ c ∈ l0, c.f0.size ≤ maxLen) (hl : l0.length ≤ maxLen) :
  SeqMap Fence.wide n Try.prog 54 #[.pointer (some ⟨pb,0,none⟩),.pointer (some ⟨b,0,none⟩)] (fun s : ByteArray => #[.string s]) b l0.length (KpA n0) (fun W => n0 ≤ W.heap.size ∧ Boxed W b 9 (.string nm0) ∧ AbW W n0 b pb A0 c0 l0 A1 c1 l1 a2 a3 a4)
   (fun xs => xs = upF (l0.length + 1) l0 [] nm0) (fun pre => True):=fun l J Jx W hA hJ hJx hY h0 => by
 obtain ⟨hn0,hbox,hab⟩:=hA
 have HZ:=aq hz
 have HAB:=aq (hab.step (w':=W.alloc (.map #[] 0)) hp hpb (fun k hk _ => Below.heap_alloc W _ k (by omega)))
 have HBX:=aq (show Boxed (W.alloc (.map #[] 0)) b 9 (.string nm0) from hbox.alloc _)
 have HMD:=aq (HadMap.made W)
 have HJ0:=aq (hJ _ _ _ none h0 (World.grownBy_alloc W (.map #[] 0) none) (fun r e => by cases e))
 have HN0:=aq hn0
 have HL:=aq hl
 clear hz hn0 hab hbox hl h0
 have hmm:=@run_makeMap Try.prog
 refine callsIn_of_wp Try.func54 rfl trivial ?_ rfl
 simp only [Try.ntmps54,List.size_toArray,List.length_cons,List.length_nil,Nat.reduceAdd,Nat.reduceSub,Array.replicate_succ,Array.replicate_zero,List.push_toArray,List.append_toArray,List.nil_append,List.cons_append]
 gi_wp2
 gi_loopw [6] (fun _ wr => ∃ (pre had : List ByteArray) (nm : ByteArray) (k : Nat),J pre wr ∧ Aside0 (Boxed wr b 9 (.string nm)) ∧ Aside0 (AbW wr n0 b pb A0 c0 l0 A1 c1 l1 a2 a3 a4) ∧ Aside0 (HadMap wr W.heap.size had) ∧ Aside0 (upF (l0.length + 1) l0 [] nm0 = pre ++ upF k l0 had nm) ∧ Aside0 (leftC l0 had < k ∧ pre.length + leftC l0 had ≤ l0.length ∧ had.length = pre.length) ∧ Aside0 (n0 ≤ wr.heap.size)) (fun _ wr => leftM W.heap.size l0 wr)
 case atStart =>
  have hL0 : leftC l0 [] ≤ l0.length:=List.countP_le_length
  exact ⟨[],[],nm0,l0.length + 1,HJ0.out,HBX,HAB,HMD,⟨rfl⟩,⟨by omega,by simpa using hL0,rfl⟩,⟨by have:=HN0.out;simp;omega⟩⟩
 case round =>
  obtain ⟨pre,had,nm,k,hJ1,HB,HAb,HM,HS,HC,HN⟩:=hrel
  clear HJ0 HBX HAB HMD
  have HK:=aq (hier_known (fun k => k < n0 ∧ k ≠ b) A0 c0 l0 A1 c1 l1 a2 a3 a4 nm wr HAb.out.cls hc0 (Kd.F_now HAb.out.strs) hc1)
  obtain ⟨p0,p1,p2,p3,p4⟩:=cells5 HAb.out.box
  have hcb:=HB.out.cell
  obtain ⟨x,hx⟩ : ∃ x,knownC l0 nm = x:=⟨_,rfl⟩
  rw [hx] at HK
  have HX:=aq hx
  clear hx
  obtain ⟨k,rfl⟩ : ∃ j,k = j + 1:=⟨k - 1,by have:=HC.out.1;omega⟩
  cases hh : hasC l0 nm with
  | false =>
   rw [hh] at HK
   have HS1 : Aside0 (upF (l0.length + 1) l0 [] nm0 = pre):=⟨by rw [HS.out,upF,if_neg (by rw [hh];simp),List.append_nil]⟩
   clear hh
   gi_wp2_with fail
   refine ⟨trivial,(fun h => by cases h),?_⟩
   refine (callsIn_wide.2 HK.out).mono ?_
   rintro e w1 ⟨A4,c4,A5,c5,A6,c6,rfl,hFK,hb1⟩
   have HJ2:=aq (hJ _ _ _ none (hJ _ _ _ none hJ1 (grown_of_below hb1 none) (fun r e => by cases e)) (World.grownBy_alloc w1 (Obj.cells (zC x A4 c4 A5 c5 A6 c6) 33) none) (fun r e => by cases e))
   clear hFK hb1 HK
   gi_wp2
   refine ⟨(fun f h => by cases h),?_⟩
   gi_wp2
   refine bodyPost_ret (results_none rfl _ _ _) rfl ?_
   exact ⟨⟨_,rfl⟩,.inl ⟨pre,HS1.out.symm,HJ2.out⟩⟩
  | true =>
   rw [hh] at HK
   have HH:=aq hh
   clear hh
   gi_wp2_with fail
   refine ⟨trivial,(fun h => by cases h),?_⟩
   refine (callsIn_wide.2 HK.out).mono ?_
   rintro e w1 ⟨A4,c4,A5,c5,A6,c6,rfl,hFK,hb1⟩
   have HSZ : Aside0 (nm.size ≤ maxLen):=⟨by
    obtain ⟨c,hc,he⟩:=has_mem HH.out
    have:=HZ.out c hc
    have e2 : nm.size = c.f0.size:=by
     show nm.data.size = c.f0.data.size
     rw [← Array.length_toList,← Array.length_toList,he]
    omega⟩
   have hg2 : wr.grownBy (w1.alloc (Obj.cells (zC x A4 c4 A5 c5 A6 c6) 33)) none:=by
    exact grown_of_below (below_alloc hb1 _) none
   have HJ2:=aq (hJ _ _ _ none hJ1 hg2 (fun r e => by cases e))
   have HM2:=aq (HM.out.kept hg2 (by simp))
   have HB2:=aq (show Boxed (w1.alloc (Obj.cells (zC x A4 c4 A5 c5 A6 c6) 33)) b 9 (.string nm) from (hg2.block b HB.out.lt (by simp)).trans HB.out)
   have HA2:=aq (HAb.out.step hp hpb (fun k hk _ => hg2.block k (by have:=HN.out;omega) (by simp)))
   have HCB : Aside0 ((w1.alloc (Obj.cells (zC x A4 c4 A5 c5 A6 c6) 33)).heap[w1.heap.size]? = some (Obj.cells (zC x A4 c4 A5 c5 A6 c6) 33 (0,0))):=⟨World.alloc_heap_new w1 _⟩
   have HN2 : Aside0 (n0 ≤ (w1.alloc (Obj.cells (zC x A4 c4 A5 c5 A6 c6) 33)).heap.size):=⟨by have:=HN.out;have:=hg2.size;omega⟩
   have hc2:=HB2.out.cell
   clear hFK hb1 HK hcb p0 p1 p2 p3 p4 hg2
   cases hm : had.any (eqB nm) with
   | true =>
    have hlk:=HM2.out.look nm HSZ.out
    rw [hm] at hlk
    have HS1 : Aside0 (upF (l0.length + 1) l0 [] nm0 = pre):=⟨by rw [HS.out,upF,if_neg (by rw [hm];simp),List.append_nil]⟩
    clear hm
    gi_wp2
    refine ⟨(fun f h => by cases h),?_⟩
    gi_wp2
    refine bodyPost_ret (results_none rfl _ _ _) rfl ?_
    exact ⟨⟨_,rfl⟩,.inl ⟨pre,HS1.out.symm,HJ2.out⟩⟩
   | false =>
    have hlk:=HM2.out.look nm HSZ.out
    rw [hm] at hlk
    have HLT:=aq (left_lt HH.out hm)
    have HS1 : Aside0 (upF (k + 1) l0 had nm = nm :: (if x.f1.size = 0 then [] else upF k l0 (nm :: had) x.f1)):=⟨by rw [upF,if_pos ⟨HH.out,hm⟩,HX.out]⟩
    clear hm
    obtain ⟨fn,tmps,assign,body,hy,hR⟩:=hY pre nm (w1.alloc (Obj.cells (zC x A4 c4 A5 c5 A6 c6) 33)) HJ2.out (by have:=HC.out;have:=HLT.out;omega)
    try dsimp only at hy
    gi_wp2
    refine ⟨(fun h => by cases h),?_⟩
    refine hR.mono ?_
    rintro e W3 (⟨rfl,hJ3,hk3⟩|⟨rfl,hJx3⟩)
    ·
     have HM3:=aq (HM2.out.same (w':=W3) (by obtain ⟨o,ho,_,hw⟩:=HM2.out.notCells;rw [ho];exact hk3.2.1.same _ o ho hw))
     have HCB3:=aq (hk3.2.2 _ _ HCB.out)
     have HB3:=aq (show Boxed W3 b 9 (.string nm) from (hk3.1 b hb).trans HB2.out)
     have HA3:=aq (HA2.out.step (w':=W3) hp hpb (fun k hk _ => hk3.1 k hk))
     have HN3 : Aside0 (n0 ≤ W3.heap.size):=⟨by have:=hk3.2.1.size;have:=HN2.out;omega⟩
     obtain ⟨W4,hrun,hM4,hg4⟩:=HM3.out.put nm HSZ.out (by have:=HC.out;have:=HLT.out;have:=HL.out;omega)
     have hmb : n0 ≤ W.heap.size:=HN0.out
     have HJ4:=aq (hJ _ _ _ _ hJ3 hg4 (fun r e => by cases e;exact .inr ⟨Nat.le_refl _,by obtain ⟨o,ho,hc,_⟩:=HM3.out.notCells;exact ⟨o,ho,hc⟩⟩))
     have HB4:=aq (show Boxed W4 b 9 (.string nm) from (hg4.block b HB3.out.lt (by simp;omega)).trans HB3.out)
     have hne4 : w1.heap.size ≠ W.heap.size:=by
      intro e
      obtain ⟨o,ho,hc,_⟩:=HM3.out.notCells
      have h3:=HCB3.out
      rw [e,ho] at h3
      cases h3
      cases hc
     have HCB4:=aq ((hg4.block _ (blk_lt HCB3.out) (by simpa using hne4)).trans HCB3.out)
     have HA4:=aq (HA3.out.step (w':=W4) hp hpb (fun k hk _ => hg4.block k (by have:=HN3.out;omega) (by simp;omega)))
     obtain ⟨e0,e1,e2,e3,e4,e5,e6⟩:=cells7 HCB4.out
     have hc3:=HB3.out.cell
     have hc4:=HB4.out.cell
     have hf4:=HB4.out.frozen
     have HJ5:=aq (hJ _ _ _ _ HJ4.out (grownBy_setCell' W4 b (.string x.f1)) (fun r e => .inl (by cases e;rfl)))
     have HB5:=aq (HB4.out.set (.string x.f1))
     have HM5:=aq (hM4.kept (grownBy_setCell' W4 b (.string x.f1)) (by simp;omega))
     have HA5:=aq (HA4.out.step (w':=W4.setCell ⟨b,0,none⟩ (.string x.f1)) hp hpb (fun k hk hne => Below.heap_setCell W4 ⟨b,0,none⟩ (.string x.f1) k hne))
     have HN5 : Aside0 (n0 ≤ (W4.setCell ⟨b,0,none⟩ (.string x.f1)).heap.size):=⟨by have:=hg4.size;have:=HN3.out;simp;omega⟩
     have hc5:=HB5.out.cell
     clear hk3 hJ3 hM4 hg4 hlk hc2 e0 e2 e3 e4 e5 e6 hne4
     cases hze : decide (x.f1.size = 0) with
     | true =>
      have hz0:=of_decide_eq_true hze
      have hr1 : x.f1.toList = []:=(toList_nil x.f1).2 hz0
      have hr2 : x.f1.toList.isEmpty = true:=by rw [hr1];rfl
      have HS2 : Aside0 (upF (l0.length + 1) l0 [] nm0 = pre ++ [nm]):=⟨by rw [HS.out,HS1.out,if_pos hz0]⟩
      clear hze hz0
      gi_wp2
      refine bodyPost_ret (results_none rfl _ _ _) rfl ?_
      exact ⟨⟨_,rfl⟩,.inl ⟨_,HS2.out.symm,HJ5.out⟩⟩
     | false =>
      have hz0:=of_decide_eq_false hze
      have hr1 : ¬ x.f1.toList = []:=fun e => hz0 ((toList_nil x.f1).1 e)
      have hr2 : x.f1.toList.isEmpty = false:=by
       cases h : x.f1.toList.isEmpty with
       | true => exact absurd (List.isEmpty_iff.1 h) hr1
       | false => rfl
      have HS2 : Aside0 (upF (l0.length + 1) l0 [] nm0 = (pre ++ [nm]) ++ upF k l0 (nm :: had) x.f1):=⟨by rw [HS.out,HS1.out,if_neg hz0];simp⟩
      clear hze hz0
      gi_wp2
      go_roundw
      case rel => exact ⟨pre ++ [nm],nm :: had,x.f1,k,HJ5.out,HB5,HA5,HM5,HS2,⟨by have:=HC.out;have:=HLT.out;omega,by have:=HC.out;have:=HLT.out;simp;omega,by have:=HC.out;simp;omega⟩,HN5⟩
      case measure =>
       have e1:=leftM_eq HM5.out l0
       have e2:=leftM_eq HM.out l0
       show leftM W.heap.size l0 _ < leftM W.heap.size l0 wr
       rw [e2]
       exact lt_of_eq_of_lt e1 HLT.out
    ·
     gi_wp2
     refine bodyPost_ret (results_none rfl _ _ _) rfl ?_
     exact ⟨⟨_,rfl⟩,.inr ⟨_,trivial,hJx3⟩⟩
abbrev StrsT : TypeId := 23
theorem str_info : (Try.prog.info? 9).map (fun i => (i.zero, i.size, i.bytes)) = some (some (.string ⟨#[]⟩), 1, 16) := by kernel_rfl
structure BB (b n0 : Nat) (w w' : World) : Prop where
 os : w'.os = w.os
 tape : w'.tape = w.tape
 output : w'.output = w.output
 size : w.heap.size ≤ w'.heap.size
 block : ∀ k,k < n0 → k ≠ b → w'.heap[k]? = w.heap[k]?
theorem BB.refl (b n0 : Nat) (w : World) : BB b n0 w w := ⟨rfl, rfl, rfl, Nat.le_refl _, fun _ _ _ => rfl⟩
theorem BB.grown {b n0 : Nat} {w W W' : World} {row : Option Nat} (h : BB b n0 w W) (hg : W.grownBy W' row) (hn : n0 ≤ W.heap.size) (hr : ∀ r, row = some r → r = b ∨ n0 ≤ r) : BB b n0 w W' :=
 ⟨hg.os.trans h.os,hg.tape.trans h.tape,hg.output.trans h.output,Nat.le_trans h.size hg.size,fun k hk hne => (hg.block k (by omega) (fun e => by rcases hr k e.symm with h|h;exact hne h;omega)).trans (h.block k hk hne)⟩
theorem BB.below {b n0 m : Nat} {w w' : World} (h : BB b n0 w w') (hm : m ≤ n0) (hb : m ≤ b) : Below m w w' := ⟨h.os, h.tape, h.output, h.size, fun k hk => h.block k (by omega) (by omega)⟩
theorem blk_staysM {X Y : World} {row : Option Nat} {B b g : Nat} {cs : Array Value} {t : TypeId} (h : X.heap[g]? = some (.cells cs t (0, 0))) (hg : X.grownBy Y row)
  (hr : ∀ r,row = some r → r = b ∨ (B ≤ r ∧ ∃ o : Obj,X.heap[r]? = some o ∧ o.isCells = false)) (hne : g ≠ b) : Y.heap[g]? = some (.cells cs t (0,0)):=by
 refine (hg.block g (Array.getElem?_eq_some_iff.1 h).1 fun e => ?_).trans h
 rcases hr g e.symm with h1|⟨_,o,ho,hc⟩
 ·
  exact hne h1
 ·
  rw [h] at ho;cases ho;cases hc
theorem row_staysM {X Y : World} {row : Option Nat} {B b base : Nat} {e : TypeId} {v : Value} {k : Nat} {xs : List Value} (h : X.ownsRow base e 1 v k xs) (hg : X.grownBy Y row)
  (hr : ∀ r,row = some r → r = b ∨ (B ≤ r ∧ ∃ o : Obj,X.heap[r]? = some o ∧ o.isCells = false)) (hb : b < base) : Y.ownsRow base e 1 v k xs:=by
 rcases h.2 with ⟨hv,_⟩|⟨g,cap,cur,hv,hbg,hh,_⟩
 ·
  exact h.kept hg (.inl (by rw [hv];rfl))
 ·
  refine h.kept hg (.inr fun ev => ?_)
  have ev' : row = some g:=by rw [← ev,hv];rfl
  rcases hr g ev' with h1|⟨_,o,ho,hc⟩
  ·
   omega
  ·
   rw [hh] at ho;cases ho;cases hc
theorem own_lowerM {W : World} {base base' : Nat} {e : TypeId} {size : Nat} {v : Value} {k : Nat} {xs : List Value} (h : W.ownsRow base e size v k xs) (hb : base' ≤ base) : W.ownsRow base' e size v k xs := by
 refine ⟨h.1,h.2.imp id ?_⟩
 rintro ⟨g,cap,cur,h1,h2,h3⟩
 exact ⟨g,cap,cur,h1,Nat.le_trans hb h2,h3⟩
def CollI (w : World) (b : Nat) (pre : List ByteArray) (W : World) : Prop :=
 (∃ v,Boxed W w.heap.size StrsT v ∧ W.ownsRow (w.heap.size + 1) 9 1 v pre.length (pre.map Value.string)) ∧ BB b w.heap.size w W ∧ w.heap.size + 1 ≤ W.heap.size
theorem collI_holds (w : World) (b : Nat) (hb : b < w.heap.size) : HoldsAll (w.heap.size + 1) b (CollI w b) := fun pre X Y row ⟨⟨v, hv, hrow⟩, h4, h5⟩ hg hr =>
 ⟨⟨v,blk_staysM hv hg hr (by omega),row_staysM hrow hg hr (by omega)⟩,h4.grown hg (by omega) (fun r e => by rcases hr r e with h|⟨h,_⟩;exact .inl h;exact .inr (by omega)),Nat.le_trans h5 hg.size⟩
theorem coll_next (w W w1 : World) (b : Nat) (hb : b < w.heap.size) (pre : List ByteArray) (s : ByteArray) (v v' : Value) (o : Obj)
  (hv : Boxed W w.heap.size StrsT v) (hrow : W.ownsRow (w.heap.size + 1) 9 1 v pre.length (pre.map Value.string)) (h4 : BB b w.heap.size w W) (h5 : w.heap.size + 1 ≤ W.heap.size)
  (hown : w1.ownsRow (w.heap.size + 1) 9 1 v' (pre.length + 1) (pre.map Value.string ++ [.string s])) (hgrow : (W.alloc o).grownBy w1 v.ownBlock) :
  Boxed w1 w.heap.size StrsT v ∧ KeepsOthers W (w1.setCell ⟨w.heap.size,0,none⟩ v') ∧ KpA w.heap.size W (w1.setCell ⟨w.heap.size,0,none⟩ v') ∧ CollI w b (pre ++ [s]) (w1.setCell ⟨w.heap.size,0,none⟩ v'):=by
 obtain ⟨a1,a2,a3,a4,a5⟩:=hv.appended (n₀:=w.heap.size) (by decide) (own_lowerM hrow (by omega : w.heap.size ≤ w.heap.size + 1)) (by omega) (by omega) (own_lowerM hown (by omega : w.heap.size ≤ w.heap.size + 1)) hgrow
 have hr4:=hown.kept (grownBy_setCell' w1 w.heap.size v') (.inr (a1.not_row (by decide) hown).symm)
 have ho:=hrow.alloc o
 refine ⟨a1,a4,⟨fun i hi => a5.block i hi,a4.walks,fun i cs hc => ?_⟩,⟨v',a2,by simpa using hr4⟩,?_,?_⟩
 ·
  have h1:=blk_grown (blk_alloc hc o) hgrow (own_ne ho (blk_alloc hc o) (by decide))
  refine blk_far h1 (p:=⟨w.heap.size,0,none⟩) ?_ _
  rintro rfl
  have hv' : W.heap[w.heap.size]? = _:=hv
  rw [hc] at hv'
  injection hv' with e
  injection e with _ e2 _
  exact absurd e2 (by decide)
 ·
  have hg1 : W.grownBy (W.alloc o) none:=World.grownBy_alloc W o none
  have b1:=h4.grown hg1 (by omega) (fun r e => by cases e)
  have b2:=b1.grown hgrow (by have:=hg1.size;omega) (fun r e => .inr (by have:=(hrow.lt r e).1;omega))
  exact b2.grown (grownBy_setCell' w1 w.heap.size v') (by have:=hg1.size;have:=hgrow.size;omega) (fun r e => .inr (by cases e;exact Nat.le_refl _))
 ·
  have:=hgrow.size
  simp at this ⊢
  omega
theorem append_above (b pb : Nat) (nm0 : ByteArray) (A0 : Option Addr) (c0 : Nat) (l0 : List S33) (A1 : Option Addr) (c1 : Nat) (l1 : List ByteArray) (a2 a3 a4 : ByteArray) (w : World) (hc0 : l0.length ≤ c0) (hc1 : l1.length ≤ c1) (hp : pb < w.heap.size) (hpb : pb ≠ b) (hb : b < w.heap.size) (hz : ∀ c ∈ l0, c.f0.size ≤ maxLen) (hl : l0.length ≤ maxLen) (hl2 : l0.length * 16 ≤ 140737488355328)
  (hbox : Boxed w b 9 (.string nm0)) (hab : AbW w w.heap.size b pb A0 c0 l0 A1 c1 l1 a2 a3 a4) :
  CallsIn Fence.wide 9 Try.prog 53 #[.slice none 0 0,.func (.func 54) #[] #[.pointer (some ⟨pb,0,none⟩),.pointer (some ⟨b,0,none⟩)]] w fun e w' => ∃ v,e = .returned v ∧ Kd.R Kd.string 9 w' w.heap.size (fun _ => True) v (upF (l0.length + 1) l0 [] nm0) ∧ BB b w.heap.size w w':=by
 obtain ⟨i0,hi,hz0,hz1,hz2⟩:=info_parts str_info
 refine callsIn_of_wp_marks Try.func53 rfl trivial ?_ rfl
 simp only [Try.ntmps53,List.size_toArray,List.length_cons,List.length_nil,Nat.reduceAdd,Nat.reduceSub,Array.replicate_succ,Array.replicate_zero,List.push_toArray,List.append_toArray,List.nil_append,List.cons_append]
 gi_wp2_with fail
 have hI0 : CollI w b [] (w.alloc (.cells #[.slice none 0 0] StrsT)):=⟨⟨.slice none 0 0,Boxed.new w StrsT _,World.ownsRow_nil _ _ _ _⟩,(BB.refl b w.heap.size w).grown (World.grownBy_alloc w _ none) (Nat.le_refl _) (fun r e => by cases e),by simp⟩
 obtain ⟨W0,hW0⟩ : ∃ W0,w.alloc (.cells #[.slice none 0 0] StrsT) = W0:=⟨_,rfl⟩
 have hsz : W0.heap.size = w.heap.size + 1:=by rw [← hW0];simp
 have hB0 : Below w.heap.size w W0:=hW0 ▸ below_alloc (Below.refl _ _) _
 rw [hW0] at hI0 ⊢
 clear hW0
 refine range_map rfl (by decide) (gf:=54) (lb:=#[.pointer (some ⟨pb,0,none⟩),.pointer (some ⟨b,0,none⟩)]) rfl trivial (enters_of Try.func54 (by kernel_rfl) rfl) (fun _ => rfl) (b:=b) (by omega)
  (Kp:=KpA w.heap.size) (fun h k => h.trans k) (fun W l o o' hl h hc hw => KpA.put (m:=W0.heap.size) (by omega) W l o o' hl h hc hw)
  (above_seq 8 w.heap.size b pb nm0 A0 c0 l0 A1 c1 l1 a2 a3 a4 hc0 hc1 hp hpb hb hz hl)
  (fun W hW => ⟨by have:=hW.size;omega,(hW.block b (by omega)).trans ((hB0.block b hb).trans hbox),hab.step hp hpb (fun k hk _ => (hW.block k (by omega)).trans (hB0.block k hk))⟩)
  (CollI w b) (fun _ _ _ => False) (hsz ▸ collI_holds w b hb) (fun c s X Y row h _ _ => h) hI0
  (fun x => { tmps:=#[.slice none 0 0,.func (.func 54) #[] #[.pointer (some ⟨pb,0,none⟩),.pointer (some ⟨b,0,none⟩)],.pointer (some ⟨w.heap.size,0,none⟩),undef,.slice none 0 0,.string x,.func (.func 54) #[] #[.pointer (some ⟨pb,0,none⟩),.pointer (some ⟨b,0,none⟩)],.string x,undef,undef,undef,undef,undef],defers:=[] }) ?assign ?body ?done ?stop
 case assign =>
  intro l x W K hK
  gi_wp2
  exact hK
 case body =>
  rintro l pre s W ⟨⟨v,hv,hrow⟩,h4,h5⟩ hN
  obtain ⟨A,cp,rfl⟩:=own_slice hrow
  have hc:=hv.cell
  have hfr:=hv.frozen
  have HN:=aq (fun w1 v' o => coll_next w W w1 b hb pre s _ v' o hv hrow h4 h5)
  have HR:=aq hrow
  have hlen1 : pre.length < 9223372036854775807:=by unfold maxLen at hl;omega
  clear h4 hv hrow hfr hz hab hbox
  gi_wp2_with (gi_at_builtin;refine wpListIn_append_own _ rfl _ _ StrsT rfl (w.heap.size + 1) 9 i0 (.string ⟨#[]⟩) 1 16 Try.underlying23 hi hz0 hz1 hz2 rfl (by decide) _ _ _ rfl (HR.out.alloc _) ⟨W.heap.size,0,none⟩ 1 1 [.string s] rfl rfl (cell_one_new _ _ _) (by simp [Value.oneCell']) (by unfold maxLen;omega) (by omega) (by simp;omega) ?_;intro v' w1 hown' hgrow _;obtain ⟨g',cap',rfl⟩:=ownsRow_succ hown';obtain ⟨hv1,hk2,hs2,hi2⟩:=HN.out w1 _ _ hown' hgrow;have hc1:=hv1.cell;have hf1:=hv1.frozen;have HF:=aq (And.intro hk2 (And.intro hs2 hi2));clear hk2 hs2 hi2 hown' hgrow hv1)
  exact HF.out
 case done =>
  rintro D xs W hD rfl ⟨⟨v,hv,hrow⟩,h4,h5⟩ hK
  obtain ⟨A,cp,rfl⟩:=own_slice hrow
  have hc:=hv.cell
  have hk : ∀ r,some D = some r → ∃ o : Obj,W.heap[r]? = some o ∧ o.isCells = false:=fun r e => by cases e;exact ⟨_,hK,rfl⟩
  have HR : Aside0 (Kd.R Kd.string 9 (W.putObj D (.deferred none)) w.heap.size (fun _ => True) (.slice A (upF (l0.length + 1) l0 [] nm0).length cp) (upF (l0.length + 1) l0 [] nm0)):=⟨Kd.R_of_own (own_lowerM (ownsRow_putObj hrow (.deferred none) hK rfl) (by omega)) (fun _ _ => trivial)⟩
  have HB:=aq (h4.grown (grownBy_putObj' W D (.deferred none)) (by omega) (fun r e => .inr (by cases e;omega)))
  clear hv hrow h4
  gi_wp2
  refine ⟨by simp,.inl ⟨_,_,rfl,run_takeDeferred hK,?_⟩⟩
  refine ⟨.slice A (upF (l0.length + 1) l0 [] nm0).length cp,?_,_,rfl,HR.out,HB.out⟩
  simp [results,Try.results53,go_sem]
 case stop =>
  rintro D c pre W hD _ h hK
  exact h.elim
end Go.Proofs.Ytfplcohjnlbfjaa.Hand
end

section
namespace Go.Proofs.Ytfplcohjnlbfjaa.Hand
open Go.RowKit Go.Shelf Go.Proofs.YtfplcohjnlbfjaaW.PrintWords Go.Proofs.YtfplcohjnlbfjaaW.PrintLast Go.Proofs.YtfplcohjnlbfjaaW.PrintMore
theorem heapT : Kd.Heap k97 := Kd.heap_iso _ (Kd.heap_pair (Kd.heap_int _) Kd.heap_string)
theorem heapF : Kd.Heap k103 := Kd.heap_iso _ (Kd.heap_pair Kd.heap_string (Kd.heap_pair heapT Kd.heap_bool))
theorem heapI : Kd.Heap k74 := Kd.heap_iso _ (Kd.heap_pair (Kd.heap_int _) (Kd.heap_pair (Kd.heap_int _) (Kd.heap_pair (Kd.heap_int _) (Kd.heap_pair (Kd.heap_int _) (Kd.heap_pair (Kd.heap_int _) (Kd.heap_pair Kd.heap_string (Kd.heap_pair Kd.heap_string (Kd.heap_pair Kd.heap_string (Kd.heap_slice _ (Kd.heap_int _))))))))))
theorem heapM : Kd.Heap k37 := Kd.heap_iso _ (Kd.heap_pair Kd.heap_string (Kd.heap_pair Kd.heap_string (Kd.heap_pair Kd.heap_bool (Kd.heap_pair Kd.heap_bool (Kd.heap_pair (Kd.heap_int _) (Kd.heap_slice _ heapI))))))
theorem heapC : Kd.Heap k33 := Kd.heap_iso _ (Kd.heap_pair Kd.heap_string (Kd.heap_pair Kd.heap_string (Kd.heap_pair Kd.heap_bool (Kd.heap_pair Kd.heap_bool (Kd.heap_pair (Kd.heap_slice _ Kd.heap_string) (Kd.heap_pair (Kd.heap_slice _ heapF) (Kd.heap_slice _ heapM)))))))
theorem F_of_C {α : Type} {d : Kd α} (hd : Kd.Heap d) {w : World} {A : Option Addr} {n : Nat} {xs : List α} (h : Kd.C d w A n xs) : Kd.F d w (fun k => k < w.heap.size) A n xs := fun W' hW => Kd.Heap.C hd (fun k hk => hW k hk hk) h
theorem hier_above (A0 : Option Addr) (c0 : Nat) (l0 : List S33) (A1 : Option Addr) (c1 : Nat) (l1 : List ByteArray) (a2 a3 a4 : ByteArray) (nm : ByteArray) (w : World) :
  Calls Try.prog 32 #[.agg (pG A0 l0 c0 A1 l1 c1 a2 a3 a4),.string nm] w fun e w' => e = .returned (.func (.func 54) #[] #[.pointer (some ⟨w.heap.size,0,none⟩),.pointer (some ⟨w.heap.size + 1,0,none⟩)]) ∧ w' = (w.alloc (Obj.cells (pG A0 l0 c0 A1 l1 c1 a2 a3 a4) 27)).alloc (Obj.cells #[.string nm] 9):=by
 have hmf : ∀ (fn : Fn) (first cap : Array Value) (w : World),(Instr.makeFunc fn first cap).run Try.prog w = .ok (.func fn first cap) w:=fun _ _ _ _ => rfl
 go_enter Try.func32,Try.ntmps32
 go_wp2
 go_ret
 exact ⟨rfl,rfl⟩
theorem collect_above (b pb : Nat) (nm0 : ByteArray) (A0 : Option Addr) (c0 : Nat) (l0 : List S33) (A1 : Option Addr) (c1 : Nat) (l1 : List ByteArray) (a2 a3 a4 : ByteArray) (w : World) (hc0 : l0.length ≤ c0) (hc1 : l1.length ≤ c1) (hp : pb < w.heap.size) (hpb : pb ≠ b) (hb : b < w.heap.size) (hz : ∀ c ∈ l0, c.f0.size ≤ maxLen) (hl : l0.length ≤ maxLen) (hl2 : l0.length * 16 ≤ 140737488355328)
  (hbox : Boxed w b 9 (.string nm0)) (hab : AbW w w.heap.size b pb A0 c0 l0 A1 c1 l1 a2 a3 a4) :
  Calls Try.prog 31 #[.func (.func 54) #[] #[.pointer (some ⟨pb,0,none⟩),.pointer (some ⟨b,0,none⟩)]] w fun e w' => ∃ v,e = .returned v ∧ Kd.R Kd.string 9 w' w.heap.size (fun _ => True) v (upF (l0.length + 1) l0 [] nm0) ∧ BB b w.heap.size w w':=by
 have HA:=aq ((callsIn_wide (n:=9)).1 (append_above b pb nm0 A0 c0 l0 A1 c1 l1 a2 a3 a4 w hc0 hc1 hp hpb hb hz hl hl2 hbox hab))
 clear hz hbox hab
 go_enter Try.func31,Try.ntmps31
 go_wp2_with fail
 refine HA.out.mono ?_
 rintro e w1 ⟨v,rfl,hR,hB⟩
 go_wp2_with fail
 exact bodyPost_ret (results_tmp rfl _ _ _) rfl ⟨v,rfl,hR,hB⟩
def hier_Supers.f (l0_0 : List S33) (l0_1 : List ByteArray) (a0_2 a0_3 a0_4 a1 : ByteArray) : Option (List ByteArray) :=
 if (∀ c ∈ l0_0,c.f0.size ≤ 9223372036854775807) ∧ l0_0.length ≤ 8796093022208 then some (upF (l0_0.length + 1) l0_0 [] a1) else none
theorem hier_Supers.calls (A0_0 : Option Addr) (c0_0 : Nat) (l0_0 : List S33) (A0_1 : Option Addr) (c0_1 : Nat) (l0_1 : List ByteArray) (a0_2 : ByteArray) (a0_3 : ByteArray) (a0_4 : ByteArray) (a1 : ByteArray) (r : List ByteArray) (w : World) (hr0_0 : Kd.C k33 w A0_0 l0_0.length l0_0) (hc0_0 : l0_0.length ≤ c0_0) (hr0_1 : Kd.C Kd.string w A0_1 l0_1.length l0_1) (hc0_1 : l0_1.length ≤ c0_1) (h : hier_Supers.f l0_0 l0_1 a0_2 a0_3 a0_4 a1 = some r) :
  Calls Try.prog 8 #[.agg (pG A0_0 l0_0 c0_0 A0_1 l0_1 c0_1 a0_2 a0_3 a0_4),.string a1] w fun e w' => ∃ v0_ : Value,e = .returned v0_ ∧ Kd.R Kd.string 9 w' w.heap.size (fun _ => True) v0_ r ∧ Below w.heap.size w w':=by
 unfold hier_Supers.f at h
 split at h
 ·
  rename_i hg
  obtain ⟨hz,hl⟩:=hg
  obtain rfl:=Option.some.inj h
  have hb2 : Below w.heap.size w (((w.alloc (Obj.cells (pG A0_0 l0_0 c0_0 A0_1 l0_1 c0_1 a0_2 a0_3 a0_4) 27)).alloc (Obj.cells (pG A0_0 l0_0 c0_0 A0_1 l0_1 c0_1 a0_2 a0_3 a0_4) 27)).alloc (Obj.cells #[.string a1] 9)):=below_alloc (below_alloc (below_alloc (Below.refl _ _) _) _) _
  have n1 : (((w.alloc (Obj.cells (pG A0_0 l0_0 c0_0 A0_1 l0_1 c0_1 a0_2 a0_3 a0_4) 27)).alloc (Obj.cells (pG A0_0 l0_0 c0_0 A0_1 l0_1 c0_1 a0_2 a0_3 a0_4) 27)).alloc (Obj.cells #[.string a1] 9)).heap[w.heap.size + 1]? = some (Obj.cells (pG A0_0 l0_0 c0_0 A0_1 l0_1 c0_1 a0_2 a0_3 a0_4) 27 (0,0)):=by
   have:=World.alloc_heap_new (w.alloc (Obj.cells (pG A0_0 l0_0 c0_0 A0_1 l0_1 c0_1 a0_2 a0_3 a0_4) 27)) (Obj.cells (pG A0_0 l0_0 c0_0 A0_1 l0_1 c0_1 a0_2 a0_3 a0_4) 27)
   rw [World.size_alloc] at this
   exact blk_alloc this _
  have n2 : (((w.alloc (Obj.cells (pG A0_0 l0_0 c0_0 A0_1 l0_1 c0_1 a0_2 a0_3 a0_4) 27)).alloc (Obj.cells (pG A0_0 l0_0 c0_0 A0_1 l0_1 c0_1 a0_2 a0_3 a0_4) 27)).alloc (Obj.cells #[.string a1] 9)).heap[w.heap.size + 1 + 1]? = some (Obj.cells #[.string a1] 9 (0,0)):=by
   have:=World.alloc_heap_new ((w.alloc (Obj.cells (pG A0_0 l0_0 c0_0 A0_1 l0_1 c0_1 a0_2 a0_3 a0_4) 27)).alloc (Obj.cells (pG A0_0 l0_0 c0_0 A0_1 l0_1 c0_1 a0_2 a0_3 a0_4) 27)) (Obj.cells #[.string a1] 9)
   rw [World.size_alloc,World.size_alloc] at this
   exact this
  have HC:=aq (collect_above (w.heap.size + 1 + 1) (w.heap.size + 1) a1 A0_0 c0_0 l0_0 A0_1 c0_1 l0_1 a0_2 a0_3 a0_4 (((w.alloc (Obj.cells (pG A0_0 l0_0 c0_0 A0_1 l0_1 c0_1 a0_2 a0_3 a0_4) 27)).alloc (Obj.cells (pG A0_0 l0_0 c0_0 A0_1 l0_1 c0_1 a0_2 a0_3 a0_4) 27)).alloc (Obj.cells #[.string a1] 9)) hc0_0 hc0_1 (by simp) (by omega) (by simp) (fun c hc => hz c hc) (by unfold maxLen;omega) (by omega) n2
   ⟨n1,Kd.F_mono (Kd.F_below (F_of_C heapC hr0_0) hb2) (fun k hk => ⟨by simp;omega,by omega⟩),Kd.F_mono (Kd.F_below (F_of_C Kd.heap_string hr0_1) hb2) (fun k hk => ⟨by simp;omega,by omega⟩)⟩)
  have HA:=aq (hier_above A0_0 c0_0 l0_0 A0_1 c0_1 l0_1 a0_2 a0_3 a0_4 a1 (w.alloc (Obj.cells (pG A0_0 l0_0 c0_0 A0_1 l0_1 c0_1 a0_2 a0_3 a0_4) 27)))
  clear h hz hl hr0_0 hr0_1 n1 n2 hb2
  go_enter Try.func8,Try.ntmps8
  go_wp2_with fail
  refine HA.out.mono ?_
  rintro e w1 ⟨rfl,rfl⟩
  rw [World.size_alloc]
  go_wp2_with fail
  refine HC.out.mono ?_
  rintro e w2 ⟨v,rfl,hR,hB⟩
  have HE:=aq (And.intro (Kd.R_lower (base':=w.heap.size) hR (by simp;omega)) ((below_alloc (below_alloc (below_alloc (Below.refl w.heap.size w) (Obj.cells (pG A0_0 l0_0 c0_0 A0_1 l0_1 c0_1 a0_2 a0_3 a0_4) 27)) (Obj.cells (pG A0_0 l0_0 c0_0 A0_1 l0_1 c0_1 a0_2 a0_3 a0_4) 27)) (Obj.cells #[.string a1] 9)).trans (hB.below (m:=w.heap.size) (by simp;omega) (by omega))))
  clear hR hB
  go_wp2_with fail
  exact bodyPost_ret (results_tmp rfl _ _ _) rfl ⟨v,rfl,HE.out.1,HE.out.2⟩
 ·
  cases h
end Go.Proofs.Ytfplcohjnlbfjaa.Hand
end

section
namespace Go.Proofs.Ytfplcohjnlbfjaa.Hand
open Go.RowKit Go.Proofs.YtfplcohjnlbfjaaW
open PrintWords PrintLast PrintMore
theorem index_str (p : ByteArray → Bool) (pb mb : Nat) (A : Option Addr) (c : Nat) (xs : List ByteArray) (w : World) (hC : Kd.C Kd.string w A xs.length xs) (hc : xs.length ≤ c)
  (hp : ∀ (x : ByteArray) (W : World),Below w.heap.size w W → Calls Try.prog 57 #[.string x,.pointer (some ⟨pb,0,none⟩),.pointer (some ⟨mb,0,none⟩)] W fun e w' => e = .returned (.bool (p x)) ∧ Below W.heap.size W w') :
  Calls Try.prog 82 #[.slice A xs.length c,.func (.func 57) #[] #[.pointer (some ⟨pb,0,none⟩),.pointer (some ⟨mb,0,none⟩)]] w fun e w' => e = .returned (.int .i64 (idxI p xs)) ∧ Below w.heap.size w w':=by
 have HC:=aq hC
 have HP:=aq hp
 have hmx:=hC.2.1
 clear hC hp
 go_enter Try.func82,Try.ntmps82
 go_wp2
 go_loopg [8] xs.length (fun kq v8 wr => ∃ i : Nat,v8 = .int .i64 (i : Int) ∧ i + kq = xs.length ∧ Aside0 (∀ j (hj : j < xs.length),j < i → p xs[j] = false) ∧ Aside0 (Below w.heap.size w wr))
 case atStart => exact ⟨0,rfl,by omega,⟨fun j _ h => absurd h (Nat.not_lt_zero j)⟩,⟨Below.refl _ _⟩⟩
 case round =>
  obtain ⟨i,rfl,hi,HA,HB⟩:=hrel
  by_cases hlt : i < xs.length
  ·
   obtain ⟨ad,rfl,h0⟩:=Kd.at_string (Kd.C_below HC.out HB.out) (i : Int) (by omega) (by omega)
   have hx : rdOf ByteArray.empty xs (i : Int) = xs[i]:=by
    unfold rdOf
    rw [Int.toNat_natCast,List.getD_eq_getElem?_getD,List.getElem?_eq_getElem hlt]
    rfl
   rw [hx,Int.toNat_natCast] at h0
   have HPX:=aq (HP.out xs[i] wr HB.out)
   have hd : decide ((i : Int) < (xs.length : Int)) = true:=decide_eq_true (by omega)
   clear hx
   cases hbd : p xs[i] with
   | true =>
    have HBD:=aq hbd
    rw [hbd] at HPX
    clear hbd
    go_wp2_with (go_at_call 57;refine HPX.out.mono ?_;rintro e w1 ⟨rfl,hb⟩;have HB1:=aq (HB.out.trans (hb.mono HB.out.size)))
    refine bodyPost_ret (results_tmp rfl _ _ _) rfl ⟨?_,HB1.out⟩
    rw [idxI_at hlt HBD.out HA.out]
    rfl
   | false =>
    have HBF:=aq hbd
    rw [hbd] at HPX
    clear hbd
    go_wp2_with (go_at_call 57;refine HPX.out.mono ?_;rintro e w1 ⟨rfl,hb⟩;have HB1:=aq (HB.out.trans (hb.mono HB.out.size)))
    go_roundg (gk - 1)
    case measure => omega
    case rel =>
     refine ⟨i + 1,by simp,by omega,⟨fun j hj hji => ?_⟩,HB1⟩
     by_cases e : j = i
     ·
      subst e
      exact HBF.out
     ·
      exact HA.out j hj (by omega)
  ·
   have hd : decide ((i : Int) < (xs.length : Int)) = false:=decide_eq_false (by omega)
   have HF : Aside0 (∀ x ∈ xs,p x = false):=⟨fun x hx => by
    obtain ⟨j,hj,rfl⟩:=List.mem_iff_getElem.1 hx
    exact HA.out j hj (by omega)⟩
   go_wp2
   go_ret
   rw [idxI_no HF.out]
   exact ⟨rfl,HB.out⟩
theorem find_among (p : ByteArray → Bool) (pb mb : Nat) (A : Option Addr) (c : Nat) (xs : List ByteArray) (w : World) (hC : Kd.C Kd.string w A xs.length xs) (hc : xs.length ≤ c)
  (hp : ∀ (x : ByteArray) (W : World),Below w.heap.size w W → Calls Try.prog 57 #[.string x,.pointer (some ⟨pb,0,none⟩),.pointer (some ⟨mb,0,none⟩)] W fun e w' => e = .returned (.bool (p x)) ∧ Below W.heap.size W w') :
  Calls Try.prog 56 #[.slice A xs.length c,.func (.func 57) #[] #[.pointer (some ⟨pb,0,none⟩),.pointer (some ⟨mb,0,none⟩)]] w fun e w' => e = .returned (.tuple #[.string ((xs.find? p).getD ⟨#[]⟩),.bool (xs.find? p).isSome]) ∧ Below w.heap.size w w':=by
 have HI:=aq (index_str p pb mb A c xs w hC hc hp)
 have HC:=aq hC
 clear hp hC
 rcases idxI_cases p xs with ⟨hn,hf⟩|⟨i,hi,hn,hf⟩
 ·
  rw [hn] at HI
  rw [hf]
  clear hn hf
  go_enter Try.func56,Try.ntmps56
  go_wp2_with fail
  refine HI.out.mono ?_
  rintro e w1 ⟨rfl,hb⟩
  have HB:=aq hb
  clear hb
  go_wp2_with fail
  exact bodyPost_ret (results_tmp2 rfl _ _ _) rfl ⟨rfl,HB.out⟩
 ·
  rw [hn] at HI
  rw [hf]
  obtain ⟨ad,rfl,h0⟩:=Kd.at_string HC.out (i : Int) (by omega) (by omega)
  have hx : rdOf ByteArray.empty xs (i : Int) = xs[i]:=by
   unfold rdOf
   rw [Int.toNat_natCast,List.getD_eq_getElem?_getD,List.getElem?_eq_getElem hi]
   rfl
  rw [hx,Int.toNat_natCast] at h0
  obtain ⟨y,hy⟩ : ∃ y,xs[i] = y:=⟨_,rfl⟩
  rw [hy] at h0 ⊢
  have H0:=aq h0
  have d2 : decide ((i : Int) ≥ 0) = true:=decide_eq_true (by omega)
  have d3 : (0 : Int) ≤ (i : Int):=by omega
  have d4 : (i : Int) < (xs.length : Int):=by omega
  clear hn hf hx hy h0
  go_enter Try.func56,Try.ntmps56
  go_wp2_with fail
  refine HI.out.mono ?_
  rintro e w1 ⟨rfl,hb⟩
  have HB:=aq hb
  have h1:=(hb.cell (cell_lt H0.out)).trans H0.out
  clear hb
  go_wp2_with fail
  exact bodyPost_ret (results_tmp2 rfl _ _ _) rfl ⟨rfl,HB.out⟩
theorem declared_lit (P : Nat → Prop) (A0 : Option Addr) (c0 : Nat) (l0 : List S33) (A1 : Option Addr) (c1 : Nat) (l1 : List ByteArray) (a2 a3 a4 : ByteArray) (pb mb : Nat) (n d s : ByteArray) (w : World) (hs : Kd.F k33 w P A0 l0.length l0) (hc : l0.length ≤ c0) (hr1 : Kd.C Kd.string w A1 l1.length l1) (hc1 : l1.length ≤ c1) (hpb : w.heap[pb]? = some (Obj.cells (pG A0 l0 c0 A1 l1 c1 a2 a3 a4) 27 (0, 0))) (u0 : Value) (hmb : w.heap[mb]? = some (Obj.cells #[u0, .string n, .string d] 25 (0, 0))) :
  Calls Try.prog 57 #[.string s,.pointer (some ⟨pb,0,none⟩),.pointer (some ⟨mb,0,none⟩)] w fun e w' => e = .returned (.bool (hasM l0 s n d)) ∧ Below w.heap.size w w':=by
 obtain ⟨p0,p1,p2,p3,p4⟩:=cells5 hpb
 obtain ⟨m0,m1,m2⟩:=cells3 hmb
 have HK:=aq (fun W (hW : Below w.heap.size w W) => find_known P A0 c0 l0 A1 c1 l1 a2 a3 a4 s W (Kd.F_below hs hW) hc (Kd.C_below hr1 hW) hc1)
 have HB:=aq (below_drew1 (Below.refl w.heap.size w))
 have HN : Aside0 (hasM l0 s n d = decide (idxI (isM n d) (knownC l0 s).f6 ≥ 0)):=⟨by
  unfold hasM
  rcases idxI_cases (isM n d) (knownC l0 s).f6 with ⟨h1,h2⟩|⟨i,hi,h1,h2⟩
  ·
   rw [h1,h2];rfl
  ·
   rw [h1,h2,decide_eq_true (by omega)];rfl⟩
 rw [HN.out]
 obtain ⟨x,hx⟩ : ∃ x,knownC l0 s = x:=⟨_,rfl⟩
 rw [hx] at HK ⊢
 clear hx hs hr1 HN
 have HP:=aq hpb
 have HM:=aq hmb
 clear hpb hmb
 go_enter Try.func57,Try.ntmps57
 go_wp2_with fail
 go_region_held3 (fun w' => w'.cell? ⟨pb,0,none⟩ = some (.slice A0 l0.length c0) ∧ w'.cell? ⟨pb,1,none⟩ = some (.slice A1 l1.length c1) ∧ w'.cell? ⟨pb,2,none⟩ = some (.string a2) ∧ w'.cell? ⟨pb,3,none⟩ = some (.string a3) ∧ w'.cell? ⟨pb,4,none⟩ = some (.string a4) ∧ w'.cell? ⟨mb,1,none⟩ = some (.string n) ∧ w'.cell? ⟨mb,2,none⟩ = some (.string d)) (first|exact ⟨p0,p1,p2,p3,p4,m1,m2⟩) (first
  | (go_at_call 35;refine (HK.out _ HB.out).mono ?_;rintro e w2 ⟨A4,c4,A5,c5,A6,c6,rfl,hFK,hb⟩;have HO:=aq (class_opens hFK);have HB2:=aq (below_step HB.out hb);clear hFK hb p0 p1 p2 p3 p4 m0 m1 m2;obtain ⟨p0,p1,p2,p3,p4⟩:=cells5 (blk_below HP.out HB2.out);obtain ⟨m0,m1,m2⟩:=cells3 (blk_below HM.out HB2.out))
  | (go_at_call 36;refine (norm_Method.calls x.f0 x.f1 x.f2 x.f3 _ _ x.f4 _ _ x.f5 _ _ x.f6 n d _ _ HO.out.2.1 HO.out.1 HO.out.2.2.2.1 HO.out.2.2.1 HO.out.2.2.2.2.2 HO.out.2.2.2.2.1 rfl).mono ?_;rintro e w3 ⟨rfl,hb⟩;have HB3:=aq (below_step HB2.out hb);clear hb p0 p1 p2 p3 p4 m0 m1 m2;obtain ⟨p0,p1,p2,p3,p4⟩:=cells5 (blk_below HP.out HB3.out);obtain ⟨m0,m1,m2⟩:=cells3 (blk_below HM.out HB3.out)))
 all_goals go_wp2_with fail
 all_goals exact bodyPost_ret (results_tmp rfl _ _ _) rfl ⟨rfl,HB3.out⟩
end Go.Proofs.Ytfplcohjnlbfjaa.Hand
end

section
namespace Go.Proofs.Ytfplcohjnlbfjaa.Hand
open Go.RowKit Go.Proofs.YtfplcohjnlbfjaaW
open PrintWords PrintLast PrintMore
theorem set3_own {w : World} {R : Nat} {t : TypeId} {u0 u1 u2 : Value} (h : w.heap[R]? = some (Obj.cells #[u0, u1, u2] t (0, 0))) (v0 v1 v2 : Value) : (((w.setCell ⟨R, 0, none⟩ v0).setCell ⟨R, 1, none⟩ v1).setCell ⟨R, 2, none⟩ v2).heap[R]? = some (Obj.cells #[v0, v1, v2] t (0, 0)) :=
 blk_put (cs':=#[v0,v1,v2]) (blk_put (cs':=#[v0,v1,u2]) (blk_put (cs':=#[v0,u1,u2]) h 0 v0 rfl) 1 v1 rfl) 2 v2 rfl
theorem set3_below {w0 w : World} {R : Nat} (h : Below w0.heap.size w0 w) (hR : w0.heap.size ≤ R) (v0 v1 v2 : Value) : Below w0.heap.size w0 (((w.setCell ⟨R, 0, none⟩ v0).setCell ⟨R, 1, none⟩ v1).setCell ⟨R, 2, none⟩ v2) := below_set (below_set (below_set h hR) hR) hR
theorem set3_far {w : World} {D R : Nat} {o : Obj} (h : w.heap[D]? = some o) (hne : D ≠ R) (v0 v1 v2 : Value) : (((w.setCell ⟨R, 0, none⟩ v0).setCell ⟨R, 1, none⟩ v1).setCell ⟨R, 2, none⟩ v2).heap[D]? = some o := by
 rw [Below.heap_setCell _ _ _ _ hne,Below.heap_setCell _ _ _ _ hne,Below.heap_setCell _ _ _ _ hne,h]
end Go.Proofs.Ytfplcohjnlbfjaa.Hand
end

section
namespace Go.Proofs.Ytfplcohjnlbfjaa.Hand
open Go.RowKit Go.Proofs.YtfplcohjnlbfjaaW
open PrintWords PrintLast PrintMore
structure MkOwn (w : World) (base g : Nat) (a0 a1 a2 a3 a4 : Value) (m : S25) (pc : Int) (b0 b1 b2 b3 b4 b5 b6 b7 b8 : Value) (v : Value) (l : List S60) : Prop where
 b : w.heap[g]? = some (Obj.cells #[a0,a1,a2,a3,a4,.string m.f0,.string m.f1,.string m.f2,.int .i64 pc,b0,b1,b2,b3,b4,b5,b6,b7,b8,v] 85 (0,0))
 hb : base ≤ g
 r : Kd.R k60 60 w base (fun _ => True) v l
theorem MkOwn.below {w w' : World} {base g : Nat} {a0 a1 a2 a3 a4 : Value} {m : S25} {pc : Int} {b0 b1 b2 b3 b4 b5 b6 b7 b8 : Value} {v : Value} {l : List S60} (h : MkOwn w base g a0 a1 a2 a3 a4 m pc b0 b1 b2 b3 b4 b5 b6 b7 b8 v l) (hb : Below w.heap.size w w') (hbz : base ≤ w.heap.size) : MkOwn w' base g a0 a1 a2 a3 a4 m pc b0 b1 b2 b3 b4 b5 b6 b7 b8 v l := { h with b := blk_below h.b hb, r := Kd.R_below h.r hb }
theorem MkOwn.put {w W w2 : World} {base g : Nat} {a0 a1 a2 a3 a4 : Value} {m : S25} {pc : Int} {b0 b1 b2 b3 b4 b5 b6 b7 b8 : Value} {v v' : Value} {l : List S60} {x : S60} (h : MkOwn W base g a0 a1 a2 a3 a4 m pc b0 b1 b2 b3 b4 b5 b6 b7 b8 v l) (hr : Kd.R k60 60 w2 base (fun _ => True) v' (l ++ [x])) (hg : W.grownBy w2 v.ownBlock) (hB : Below base w w2) :
  MkOwn (w2.setCell ⟨g,18,none⟩ v') base g a0 a1 a2 a3 a4 m pc b0 b1 b2 b3 b4 b5 b6 b7 b8 v' (l ++ [x]) ∧ Below base w (w2.setCell ⟨g,18,none⟩ v'):=by
 have hb2:=blk_grown h.b hg (Kd.R_ne h.r h.b (by decide))
 exact ⟨{ b:=blk_put hb2 18 v' rfl,hb:=h.hb,r:=Kd.R_set hr hb2 (by decide) 18 v' },hB.setCell h.hb _⟩
def Kp (w w' : World) (g : Nat) (v v' : Value) : Prop := (w.heap.size ≤ w'.heap.size ∧ ∀ i, i < w.heap.size → i ≠ g → some i ≠ v.ownBlock → w'.heap[i]? = w.heap[i]?) ∧ (v'.ownBlock = v.ownBlock ∨ ∃ b, v'.ownBlock = some b ∧ w.heap.size ≤ b)
theorem Kp.trans {w W w' : World} {g : Nat} {v v1 v2 : Value} (h : Kp w W g v v1) (k : Kp W w' g v1 v2) : Kp w w' g v v2 := by
 obtain ⟨⟨h1,h2⟩,h3⟩:=h
 obtain ⟨⟨k1,k2⟩,k3⟩:=k
 refine ⟨⟨Nat.le_trans h1 k1,fun i hi hg hv => ?_⟩,?_⟩
 ·
  refine (k2 i (by omega) hg ?_).trans (h2 i hi hg hv)
  rcases h3 with h3|⟨b,h3,hb⟩
  ·
   rw [h3];exact hv
  ·
   rw [h3];intro e;injection e with e;omega
 ·
  rcases k3 with k3|⟨b,k3,hb⟩
  ·
   rw [k3];exact h3
  ·
   exact .inr ⟨b,k3,by omega⟩
theorem Kp.pre {w W w' : World} {g : Nat} {v v' : Value} (h : Below w.heap.size w W) (k : Kp W w' g v v') : Kp w w' g v v' := by
 obtain ⟨⟨k1,k2⟩,k3⟩:=k
 have hs:=h.size
 refine ⟨⟨Nat.le_trans hs k1,fun i hi hg hv => (k2 i (by omega) hg hv).trans (h.block i hi)⟩,?_⟩
 rcases k3 with k3|⟨b,k3,hb⟩
 ·
  exact .inl k3
 ·
  exact .inr ⟨b,k3,by omega⟩
theorem Kp.blk {w w' : World} {g i : Nat} {v v' : Value} {o : Obj} (h : Kp w w' g v v') (hb : w.heap[i]? = some o) (hg : i ≠ g) (hv : some i ≠ v.ownBlock) : w'.heap[i]? = some o := (h.1.2 i (blk_lt hb) hg hv).trans hb
theorem Kp.mk' {w X w2 : World} {g j : Nat} {v v' u : Value} (h : Below w.heap.size w X) (hg : X.grownBy w2 v.ownBlock) (hat : v'.ownBlock = v.ownBlock ∨ ∃ b, v'.ownBlock = some b ∧ X.heap.size ≤ b) : Kp w (w2.setCell ⟨g, j, none⟩ u) g v v' := by
 have hs:=h.size
 refine ⟨⟨by rw [World.size_setCell];exact Nat.le_trans hs hg.size,fun i hi hne hv => ?_⟩,?_⟩
 ·
  rw [Below.heap_setCell _ _ _ _ (show i ≠ (⟨g,j,none⟩ : Addr).block from hne)]
  exact (hg.block i (by omega) hv).trans (h.block i hi)
 ·
  rcases hat with e|⟨b,e,hb⟩
  ·
   exact .inl e
  ·
   exact .inr ⟨b,e,by omega⟩
theorem rangeAt_blk {w : World} {b : Nat} {cs : List Value} {t : TypeId} {fr : Nat × Nat} (h : w.heap[b]? = some (.cells cs.toArray t fr)) : w.rangeAt b 0 cs := fun j v hv => by
 rw [Nat.zero_add]
 unfold World.cell?
 simp only [h]
 simpa using hv
theorem cons_info : (Try.prog.info? 60).map (fun i => (i.zero, i.size, i.bytes)) = some (some (.agg (List.toArray ((kK 0 0 (qZ (qZ (sZ (fZ (kS ⟨#[]⟩ (mZ [.slice none 0 0])))))))))), 38, 544) := by kernel_rfl
end Go.Proofs.Ytfplcohjnlbfjaa.Hand
end

section
namespace Go.Proofs.Ytfplcohjnlbfjaa.Hand
open Go.RowKit Go.Proofs.YtfplcohjnlbfjaaW
open PrintWords PrintLast PrintMore
theorem put_plain (base g : Nat) (a0 a1 a2 a3 a4 : Value) (m : S25) (pc : Int) (b0 b1 b2 b3 b4 b5 b6 b7 b8 : Value) (v : Value) (l : List S60) (c : S60) (w : World) (hm : MkOwn w base g a0 a1 a2 a3 a4 m pc b0 b1 b2 b3 b4 b5 b6 b7 b8 v l) (hk : c.f0 ≠ 1) (hc : c.f8 = []) (hl : l.length ≤ 1048576) (hbz : base ≤ w.heap.size) :
  Calls Try.prog 61 #[.pointer (some ⟨g,0,none⟩),.agg (List.toArray ((kK c.f0 c.f1 (qL c.f2 (qL c.f3 (sL c.f4 (fL c.f5 (kS c.f6 (mL c.f7 [.slice none 0 0])))))))))] w fun e w' => ∃ v',e = .returned (.tuple #[]) ∧ MkOwn w' base g a0 a1 a2 a3 a4 m pc b0 b1 b2 b3 b4 b5 b6 b7 b8 v' (l ++ [(⟨c.f0,pc,c.f2,c.f3,⟨m,c.f4.f1,c.f4.f2⟩,c.f5,c.f6,c.f7,c.f8⟩ : S60)]) ∧ Below base w w' ∧ Kp w w' g v v':=by
 obtain ⟨n,hn⟩ : ∃ n,n = w.heap.size:=⟨_,rfl⟩
 have hlt:=blk_lt hm.b
 have hne : g ≠ n:=by omega
 have hgn : g < n:=by omega
 have hbn : base ≤ n:=by omega
 have hab:=below_alloc (Below.refl w.heap.size w) (Obj.cells (List.toArray ((kK c.f0 c.f1 (qL c.f2 (qL c.f3 (sL c.f4 (fL c.f5 (kS c.f6 (mL c.f7 [.slice none 0 0]))))))))) 60)
 have HB0:=hm.hb
 have HMb:=aq ((hm.below hab hbz).b)
 have HRb : Aside0 ((w.alloc (Obj.cells (List.toArray ((kK c.f0 c.f1 (qL c.f2 (qL c.f3 (sL c.f4 (fL c.f5 (kS c.f6 (mL c.f7 [.slice none 0 0]))))))))) 60)).heap[n]? = some (Obj.cells (List.toArray ((kK c.f0 c.f1 (qL c.f2 (qL c.f3 (sL c.f4 (fL c.f5 (kS c.f6 (mL c.f7 [.slice none 0 0]))))))))) 60 (0,0))):=⟨by rw [hn];exact World.alloc_heap_new w _⟩
 have HRr : Aside0 (Kd.R k60 60 (w.alloc (Obj.cells (List.toArray ((kK c.f0 c.f1 (qL c.f2 (qL c.f3 (sL c.f4 (fL c.f5 (kS c.f6 (mL c.f7 [.slice none 0 0]))))))))) 60)) base (fun k => True ∧ k ≠ n) v l):=⟨by rw [hn];exact Kd.R_below (Kd.R_elderB hm.r w.heap.size (Nat.le_refl _)) hab⟩
 have HBe:=aq hab
 have hnn : w.heap.size ≤ n:=by omega
 have HBW:=aq hbz
 have HSz : Aside0 ((w.alloc (Obj.cells (List.toArray ((kK c.f0 c.f1 (qL c.f2 (qL c.f3 (sL c.f4 (fL c.f5 (kS c.f6 (mL c.f7 [.slice none 0 0]))))))))) 60)).heap.size = n + 1):=⟨by rw [hn];exact World.size_alloc w _⟩
 have HNil : Aside0 (∀ (W : World) (ok : Nat → Prop),(Kd.int .i64).R 3 W base ok (.slice none 0 0) ((⟨c.f0,pc,c.f2,c.f3,⟨m,c.f4.f1,c.f4.f2⟩,c.f5,c.f6,c.f7,c.f8⟩ : S60) : S60).f8):=⟨fun W ok => by show (Kd.int .i64).R 3 W base ok (.slice none 0 0) c.f8;rw [hc];exact Kd.R_nil _ _ _ _ _⟩
 have HLn : Aside0 ((l.length + 1) * 544 ≤ 140737488355328):=⟨by omega⟩
 have HVlt : Aside0 (∀ k,v.ownBlock = some k → k < n):=⟨fun k hk => by rw [hn];exact Kd.R_lt hm.r k hk⟩
 have HVne : Aside0 (some g ≠ v.ownBlock):=⟨Kd.R_ne hm.r hm.b (by decide)⟩
 have hkb : (c.f0 == 1) = false:=beq_eq_false_iff_ne.2 hk
 clear hm hab hk hc
 go_enter Try.func61,Try.ntmps61
 go_wp2_with fail
 rw [← hn]
 clear hn
 generalize w.alloc (Obj.cells (List.toArray ((kK c.f0 c.f1 (qL c.f2 (qL c.f3 (sL c.f4 (fL c.f5 (kS c.f6 (mL c.f7 [.slice none 0 0]))))))))) 60) = X0 at HMb HRb HRr HBe HSz ⊢
 generalize Value.agg (List.toArray ((kK c.f0 c.f1 (qL c.f2 (qL c.f3 (sL c.f4 (fL c.f5 (kS c.f6 (mL c.f7 [.slice none 0 0]))))))))) = cv
 replace HMb : Aside0 (X0.drew.heap[g]? = some (Obj.cells #[a0,a1,a2,a3,a4,.string m.f0,.string m.f1,.string m.f2,.int .i64 pc,b0,b1,b2,b3,b4,b5,b6,b7,b8,v] 85 (0,0))):=⟨HMb.out⟩
 replace HRb : Aside0 (X0.drew.heap[n]? = some (Obj.cells (List.toArray ((kK c.f0 c.f1 (qL c.f2 (qL c.f3 (sL c.f4 (fL c.f5 (kS c.f6 (mL c.f7 [.slice none 0 0]))))))))) 60 (0,0))):=⟨HRb.out⟩
 replace HRr : Aside0 (Kd.R k60 60 X0.drew base (fun k => True ∧ k ≠ n) v l):=⟨by apply Kd.R_drew;exact HRr.out⟩
 replace HBe : Aside0 (Below w.heap.size w X0.drew):=⟨below_drew1 HBe.out⟩
 replace HSz : Aside0 (X0.drew.heap.size = n + 1):=⟨HSz.out⟩
 obtain ⟨e5,e6,e7,e8⟩ : X0.drew.cell? ⟨g,5,none⟩ = some (.string m.f0) ∧ X0.drew.cell? ⟨g,6,none⟩ = some (.string m.f1) ∧ X0.drew.cell? ⟨g,7,none⟩ = some (.string m.f2) ∧ X0.drew.cell? ⟨g,8,none⟩ = some (.int .i64 pc):=⟨blk_cell HMb.out 5,blk_cell HMb.out 6,blk_cell HMb.out 7,blk_cell HMb.out 8⟩
 obtain ⟨o1,o26,o27,o28⟩ : X0.drew.cell? ⟨n,1,none⟩ = some (.int .i64 c.f1) ∧ X0.drew.cell? ⟨n,26,none⟩ = some (.string c.f4.f0.f0) ∧ X0.drew.cell? ⟨n,27,none⟩ = some (.string c.f4.f0.f1) ∧ X0.drew.cell? ⟨n,28,none⟩ = some (.string c.f4.f0.f2):=⟨blk_cell HRb.out 1,blk_cell HRb.out 26,blk_cell HRb.out 27,blk_cell HRb.out 28⟩
 have hfr:=blk_frozen HRb.out
 refine start_ (n:=13) (S:=fun w' => w'.cell? ⟨g,5,none⟩ = some (.string m.f0) ∧ w'.cell? ⟨g,6,none⟩ = some (.string m.f1) ∧ w'.cell? ⟨g,7,none⟩ = some (.string m.f2) ∧ w'.cell? ⟨g,8,none⟩ = some (.int .i64 pc)) (ds:=[12]) (Array.replicate 13 false) (by kernel_rfl) rfl rfl ⟨e5,e6,e7,e8⟩ (fun hHeld => ?_)
 generalize X0.drew = X1 at HMb HRb HRr HBe HSz e5 e6 e7 e8 o1 o26 o27 o28 hfr hHeld ⊢
 refine sP (i:=0) (N:=some 4) ?_
 refine sP (i:=1) (N:=some 5) ?_
 refine sP (i:=2) (N:=some 6) ?_
 refine sP (i:=4) (N:=some 8) ?_
 refine sP (i:=5) (N:=some 9) ?_
 refine sP (i:=6) (N:=some 10) ?_
 refine sT (i:=3) (N:=some 7) hHeld ?_
 refine sP (i:=8) (N:=some 12) ?_
 refine sT (i:=7) (N:=some 11) hHeld ?_
 refine sO (i:=9) (N:=none) fun K hK => ?_
 refine skip_ (w1:=?_) (by rfl) rfl ?_ ?_
 rotate_left
 ·
  go_simp
  rfl
 refine hK.out _ _ ⟨((cell_far (p:=⟨n,1,none⟩) (a:=⟨g,5,none⟩) hne _).trans e5),((cell_far (p:=⟨n,1,none⟩) (a:=⟨g,6,none⟩) hne _).trans e6),((cell_far (p:=⟨n,1,none⟩) (a:=⟨g,7,none⟩) hne _).trans e7),((cell_far (p:=⟨n,1,none⟩) (a:=⟨g,8,none⟩) hne _).trans e8)⟩ (fun hHeld => ?_)
 clear hK K
 refine sP (i:=10) (N:=some 13) ?_
 refine sP (i:=11) (N:=some 14) ?_
 refine sX (i:=12) (N:=none) fun K hK => ?_
 refine skip_ (w1:=?_) (by rfl) rfl ?_ ?_
 rotate_left
 ·
  go_simp
  rfl
 refine hK.out _ _ ?_
 clear hK K
 refine done_ (by kernel_rfl) ?_
 have HMb:=aq (show ((((X1.setCell ⟨n,1,none⟩ (.int .i64 pc)).setCell ⟨n,26,none⟩ (.string m.f0)).setCell ⟨n,27,none⟩ (.string m.f1)).setCell ⟨n,28,none⟩ (.string m.f2)).heap[g]? = some (Obj.cells #[a0,a1,a2,a3,a4,.string m.f0,.string m.f1,.string m.f2,.int .i64 pc,b0,b1,b2,b3,b4,b5,b6,b7,b8,v] 85 (0,0)) from by rw [Below.heap_setCell _ _ _ _ hne,Below.heap_setCell _ _ _ _ hne,Below.heap_setCell _ _ _ _ hne,Below.heap_setCell _ _ _ _ hne];exact HMb.out)
 have HRb:=aq (show ((((X1.setCell ⟨n,1,none⟩ (.int .i64 pc)).setCell ⟨n,26,none⟩ (.string m.f0)).setCell ⟨n,27,none⟩ (.string m.f1)).setCell ⟨n,28,none⟩ (.string m.f2)).heap[n]? = some (Obj.cells (List.toArray ((kK c.f0 pc (qL c.f2 (qL c.f3 (sM m c.f4.f1 c.f4.f2 (fL c.f5 (kS c.f6 (mL c.f7 [.slice none 0 0]))))))))) 60 (0,0)) from (blk_put (cs:=(List.toArray ((kK c.f0 pc (qL c.f2 (qL c.f3 ((.string m.f0) :: (.string m.f1) :: (.string c.f4.f0.f2) :: (.int .i64 c.f4.f1) :: (.string c.f4.f2) :: (fL c.f5 (kS c.f6 (mL c.f7 [.slice none 0 0])))))))))) (blk_put (cs:=(List.toArray ((kK c.f0 pc (qL c.f2 (qL c.f3 ((.string m.f0) :: (.string c.f4.f0.f1) :: (.string c.f4.f0.f2) :: (.int .i64 c.f4.f1) :: (.string c.f4.f2) :: (fL c.f5 (kS c.f6 (mL c.f7 [.slice none 0 0])))))))))) (blk_put (cs:=(List.toArray ((kK c.f0 pc (qL c.f2 (qL c.f3 (sL c.f4 (fL c.f5 (kS c.f6 (mL c.f7 [.slice none 0 0])))))))))) (blk_put (cs:=(List.toArray ((kK c.f0 c.f1 (qL c.f2 (qL c.f3 (sL c.f4 (fL c.f5 (kS c.f6 (mL c.f7 [.slice none 0 0])))))))))) HRb.out 1 (.int .i64 pc) rfl) 26 (.string m.f0) rfl) 27 (.string m.f1) rfl) 28 (.string m.f2) rfl))
 have HRr:=aq (show Kd.R k60 60 ((((X1.setCell ⟨n,1,none⟩ (.int .i64 pc)).setCell ⟨n,26,none⟩ (.string m.f0)).setCell ⟨n,27,none⟩ (.string m.f1)).setCell ⟨n,28,none⟩ (.string m.f2)) base (fun k => True ∧ k ≠ n) v l from (Kd.R_far (p:=⟨n,28,none⟩) (Kd.R_far (p:=⟨n,27,none⟩) (Kd.R_far (p:=⟨n,26,none⟩) (Kd.R_far (p:=⟨n,1,none⟩) HRr.out (fun _ hk => hk.2) (.int .i64 pc)) (fun _ hk => hk.2) (.string m.f0)) (fun _ hk => hk.2) (.string m.f1)) (fun _ hk => hk.2) (.string m.f2)))
 have HBe:=aq (show Below w.heap.size w ((((X1.setCell ⟨n,1,none⟩ (.int .i64 pc)).setCell ⟨n,26,none⟩ (.string m.f0)).setCell ⟨n,27,none⟩ (.string m.f1)).setCell ⟨n,28,none⟩ (.string m.f2)) from ((((HBe.out.setCell hnn (.int .i64 pc)).setCell hnn (.string m.f0)).setCell hnn (.string m.f1)).setCell hnn (.string m.f2)))
 have HSz:=aq (show ((((X1.setCell ⟨n,1,none⟩ (.int .i64 pc)).setCell ⟨n,26,none⟩ (.string m.f0)).setCell ⟨n,27,none⟩ (.string m.f1)).setCell ⟨n,28,none⟩ (.string m.f2)).heap.size = n + 1 from by rw [World.size_setCell,World.size_setCell,World.size_setCell,World.size_setCell];exact HSz.out)
 generalize ((((X1.setCell ⟨n,1,none⟩ (.int .i64 pc)).setCell ⟨n,26,none⟩ (.string m.f0)).setCell ⟨n,27,none⟩ (.string m.f1)).setCell ⟨n,28,none⟩ (.string m.f2)) = W1 at HMb HRb HRr HBe HSz ⊢
 clear e5 e6 e7 e8 o1 o26 o27 o28 hfr hHeld
 have d0 : W1.cell? ⟨n,0,none⟩ = some (.int .i64 c.f0):=blk_cell HRb.out 0
 have e8 : W1.cell? ⟨g,8,none⟩ = some (.int .i64 pc):=blk_cell HMb.out 8
 have hfr:=blk_frozen HRb.out
 go_wp2_with fail
 replace HMb : Aside0 (W1.drew.heap[g]? = some (Obj.cells #[a0,a1,a2,a3,a4,.string m.f0,.string m.f1,.string m.f2,.int .i64 pc,b0,b1,b2,b3,b4,b5,b6,b7,b8,v] 85 (0,0))):=⟨HMb.out⟩
 replace HRr : Aside0 (Kd.R k60 60 W1.drew base (fun k => True ∧ k ≠ n) v l):=⟨by apply Kd.R_drew;exact HRr.out⟩
 replace HBe : Aside0 (Below w.heap.size w W1.drew):=⟨below_drew1 HBe.out⟩
 replace HSz : Aside0 (W1.drew.heap.size = n + 1):=⟨HSz.out⟩
 have q18 : W1.drew.cell? ⟨g,18,none⟩ = some v:=blk_cell HMb.out 18
 have qf : Aside0 (W1.drew.frozen? ⟨g,18,none⟩ = false):=⟨blk_frozen HMb.out 18⟩
 have rb : W1.drew.heap[n]? = some (Obj.cells (List.toArray ((kK c.f0 pc (qL c.f2 (qL c.f3 (sM m c.f4.f1 c.f4.f2 (fL c.f5 (kS c.f6 (mL c.f7 [.slice none 0 0]))))))))) 60 (0,0)):=HRb.out
 have HBz : Aside0 (base ≤ W1.drew.heap.size):=⟨by have:=HSz.out;omega⟩
 have HGlt : Aside0 ((⟨g,18,none⟩ : Addr).block < W1.drew.heap.size):=⟨by have:=HSz.out;show g < W1.drew.heap.size;omega⟩
 have HPne : Aside0 (some n ≠ v.ownBlock):=⟨fun e => by have:=HVlt.out _ e.symm;omega⟩
 refine start_ (n:=11) (S:=fun w' => w'.cell? ⟨g,18,none⟩ = some v ∧ w'.heap[n]? = some (Obj.cells (List.toArray ((kK c.f0 pc (qL c.f2 (qL c.f3 (sM m c.f4.f1 c.f4.f2 (fL c.f5 (kS c.f6 (mL c.f7 [.slice none 0 0]))))))))) 60 (0,0))) (ds:=[10]) (Array.replicate 11 false) (by kernel_rfl) rfl rfl ⟨q18,rb⟩ (fun hHeld => ?_)
 generalize W1.drew = X at HMb HRr HBe HSz HBz HGlt qf q18 rb hHeld ⊢
 refine sP (i:=0) (N:=some 24) ?_
 refine sP (i:=1) (N:=some 25) ?_
 refine sP (i:=2) (N:=some 26) ?_
 refine sP (i:=3) (N:=some 27) ?_
 refine sT (i:=4) (N:=some 28) hHeld ?_
 refine take_ (i:=5) (N:=some 29) (a':=?_) #[true,true,true,true,true,true,false,false,false,false,false] rfl rfl (by kernel_rfl) (fun _ _ _ h => h) (yieldsIf_load_mid (by rfl) 60 (.tmp 3) rfl n 0 rfl ((kK c.f0 pc (qL c.f2 (qL c.f3 (sM m c.f4.f1 c.f4.f2 (fL c.f5 (kS c.f6 (mL c.f7 [.slice none 0 0])))))))) _ (fun w' hw' => rangeAt_blk hw'.2) Try.underlying60 rfl (by kernel_rfl)) hHeld ?_ ?_
 rotate_left
 ·
  simp only [Act.put,List.setIfInBounds_toArray,List.set_cons_zero,List.set_cons_succ,i64_w,i32_w]
  rfl
 refine sO (i:=6) (N:=some 30) fun K hK => ?_
 refine value_ (w1:=?_) (v:=?_) (by rfl) rfl ?_ ?_
 rotate_left 2
 ·
  go_simp
  constructor
  ·
   rfl
  ·
   rfl
 refine hK.out _ _ ⟨(((below_alloc (Below.refl _ _) _).cell (World.block_lt_of_cell? _ _ q18)).trans q18),(blk_alloc rb _)⟩ (fun hHeld => ?_)
 clear hK K
 refine sN ?_
 refine sO (i:=7) (N:=some 31) fun K hK => ?_
 refine Kd.R_append_step k60 (w0:=w) base (by rfl) _ _ 62 60 _ 544 rfl Try.underlying62 cons_info rfl (by decide) (by decide) v l (⟨c.f0,pc,c.f2,c.f3,⟨m,c.f4.f1,c.f4.f2⟩,c.f5,c.f6,c.f7,c.f8⟩ : S60) ((kK c.f0 pc (qL c.f2 (qL c.f3 (sM m c.f4.f1 c.f4.f2 (fL c.f5 (kS c.f6 (mL c.f7 [.slice none 0 0])))))))) (fun k => True ∧ k ≠ n) (fun _ => False) rfl (by rfl) (k60_mkM _ _ _ (⟨c.f0,pc,c.f2,c.f3,⟨m,c.f4.f1,c.f4.f2⟩,c.f5,c.f6,c.f7,c.f8⟩ : S60) (v37:=.slice none 0 0) (HNil.out _ _)) (fun _ hk => hk.elim) (fun k hk => ⟨trivial,by have:=HSz.out;omega⟩) HRr.out (HBe.out.mono HBW.out) HBz.out HLn.out ?_
 intro v' w2 hR2 hB2 hg2 hat2
 obtain ⟨Av,nv,cv,hv⟩ : ∃ A n c,v' = Value.slice A n c:=by obtain ⟨A,c,e⟩:=Kd.R_slice hR2;exact ⟨A,_,c,e⟩
 subst hv
 have HR2:=aq (Kd.R_mono hR2 (fun _ _ => trivial))
 have HB2:=aq hB2
 have HG2:=aq hg2
 have HT2:=aq hat2
 have q18':=hg2.cell q18 HVne.out
 have tf:=(hg2.frozen_far ⟨g,18,none⟩ HGlt.out HVne.out).trans qf.out
 have rb':=blk_grown rb hg2 HPne.out
 clear hR2 hB2 hg2 hat2
 refine hK.out _ _ ⟨q18',rb'⟩ (fun hHeld => ?_)
 clear hK K
 refine sN ?_
 refine sP (i:=8) (N:=some 32) ?_
 refine sP (i:=9) (N:=some 33) ?_
 refine sX (i:=10) (N:=none) fun K hK => ?_
 refine skip_ (w1:=?_) (by rfl) rfl ?_ ?_
 rotate_left
 ·
  go_simp
  rfl
 refine hK.out _ _ ?_
 clear hK K
 refine done_ (by kernel_rfl) ?_
 go_wp2_with fail
 have hfin:=MkOwn.put (w:=w) (MkOwn.mk HMb.out HB0 (Kd.R_mono HRr.out (fun _ _ => trivial))) HR2.out HG2.out HB2.out
 have hkp : Kp w (w2.setCell ⟨g,18,none⟩ (.slice Av nv cv)) g v (.slice Av nv cv):=Kp.mk' HBe.out HG2.out HT2.out
 first
  | exact bodyPost_end (v:=.tuple #[]) (by simp [results,Try.results61,go_sem]) rfl ⟨rfl,⟨_,hfin.1,hfin.2,hkp⟩⟩
  | exact bodyPost_end (v:=.tuple #[]) (by simp [results,Try.f61,go_sem]) rfl ⟨rfl,⟨_,hfin.1,hfin.2,hkp⟩⟩
  | exact bodyPost_ret (v:=.tuple #[]) (by simp [results,Try.results61,go_sem]) rfl ⟨rfl,⟨_,hfin.1,hfin.2,hkp⟩⟩
theorem put_has (base g : Nat) (a0 a1 a2 a3 a4 : Value) (m : S25) (pc : Int) (b0 b1 b2 b3 b4 b5 b6 b7 b8 : Value) (v : Value) (l : List S60) (c : S60) (w : World) (hm : MkOwn w base g a0 a1 a2 a3 a4 m pc b0 b1 b2 b3 b4 b5 b6 b7 b8 v l) (hk : c.f0 = 1) (hc : c.f8 = []) (hl : l.length ≤ 1048576) (hbz : base ≤ w.heap.size) :
  Calls Try.prog 61 #[.pointer (some ⟨g,0,none⟩),.agg (List.toArray ((kK c.f0 c.f1 (qL c.f2 (qL c.f3 (sL c.f4 (fL c.f5 (kS c.f6 (mL c.f7 [.slice none 0 0])))))))))] w fun e w' => ∃ v',e = .returned (.tuple #[]) ∧ MkOwn w' base g a0 a1 a2 a3 a4 m pc b0 b1 b2 b3 b4 b5 b6 b7 b8 v' (l ++ [(⟨c.f0,pc,c.f2,c.f3,⟨m,pc,c.f4.f2⟩,c.f5,c.f6,c.f7,c.f8⟩ : S60)]) ∧ Below base w w' ∧ Kp w w' g v v':=by
 obtain ⟨n,hn⟩ : ∃ n,n = w.heap.size:=⟨_,rfl⟩
 have hlt:=blk_lt hm.b
 have hne : g ≠ n:=by omega
 have hgn : g < n:=by omega
 have hbn : base ≤ n:=by omega
 have hab:=below_alloc (Below.refl w.heap.size w) (Obj.cells (List.toArray ((kK c.f0 c.f1 (qL c.f2 (qL c.f3 (sL c.f4 (fL c.f5 (kS c.f6 (mL c.f7 [.slice none 0 0]))))))))) 60)
 have HB0:=hm.hb
 have HMb:=aq ((hm.below hab hbz).b)
 have HRb : Aside0 ((w.alloc (Obj.cells (List.toArray ((kK c.f0 c.f1 (qL c.f2 (qL c.f3 (sL c.f4 (fL c.f5 (kS c.f6 (mL c.f7 [.slice none 0 0]))))))))) 60)).heap[n]? = some (Obj.cells (List.toArray ((kK c.f0 c.f1 (qL c.f2 (qL c.f3 (sL c.f4 (fL c.f5 (kS c.f6 (mL c.f7 [.slice none 0 0]))))))))) 60 (0,0))):=⟨by rw [hn];exact World.alloc_heap_new w _⟩
 have HRr : Aside0 (Kd.R k60 60 (w.alloc (Obj.cells (List.toArray ((kK c.f0 c.f1 (qL c.f2 (qL c.f3 (sL c.f4 (fL c.f5 (kS c.f6 (mL c.f7 [.slice none 0 0]))))))))) 60)) base (fun k => True ∧ k ≠ n) v l):=⟨by rw [hn];exact Kd.R_below (Kd.R_elderB hm.r w.heap.size (Nat.le_refl _)) hab⟩
 have HBe:=aq hab
 have hnn : w.heap.size ≤ n:=by omega
 have HBW:=aq hbz
 have HSz : Aside0 ((w.alloc (Obj.cells (List.toArray ((kK c.f0 c.f1 (qL c.f2 (qL c.f3 (sL c.f4 (fL c.f5 (kS c.f6 (mL c.f7 [.slice none 0 0]))))))))) 60)).heap.size = n + 1):=⟨by rw [hn];exact World.size_alloc w _⟩
 have HNil : Aside0 (∀ (W : World) (ok : Nat → Prop),(Kd.int .i64).R 3 W base ok (.slice none 0 0) ((⟨c.f0,pc,c.f2,c.f3,⟨m,pc,c.f4.f2⟩,c.f5,c.f6,c.f7,c.f8⟩ : S60) : S60).f8):=⟨fun W ok => by show (Kd.int .i64).R 3 W base ok (.slice none 0 0) c.f8;rw [hc];exact Kd.R_nil _ _ _ _ _⟩
 have HLn : Aside0 ((l.length + 1) * 544 ≤ 140737488355328):=⟨by omega⟩
 have HVlt : Aside0 (∀ k,v.ownBlock = some k → k < n):=⟨fun k hk => by rw [hn];exact Kd.R_lt hm.r k hk⟩
 have HVne : Aside0 (some g ≠ v.ownBlock):=⟨Kd.R_ne hm.r hm.b (by decide)⟩
 have hkb : (c.f0 == 1) = true:=beq_iff_eq.2 hk
 clear hm hab hk hc
 go_enter Try.func61,Try.ntmps61
 go_wp2_with fail
 rw [← hn]
 clear hn
 generalize w.alloc (Obj.cells (List.toArray ((kK c.f0 c.f1 (qL c.f2 (qL c.f3 (sL c.f4 (fL c.f5 (kS c.f6 (mL c.f7 [.slice none 0 0]))))))))) 60) = X0 at HMb HRb HRr HBe HSz ⊢
 generalize Value.agg (List.toArray ((kK c.f0 c.f1 (qL c.f2 (qL c.f3 (sL c.f4 (fL c.f5 (kS c.f6 (mL c.f7 [.slice none 0 0]))))))))) = cv
 replace HMb : Aside0 (X0.drew.heap[g]? = some (Obj.cells #[a0,a1,a2,a3,a4,.string m.f0,.string m.f1,.string m.f2,.int .i64 pc,b0,b1,b2,b3,b4,b5,b6,b7,b8,v] 85 (0,0))):=⟨HMb.out⟩
 replace HRb : Aside0 (X0.drew.heap[n]? = some (Obj.cells (List.toArray ((kK c.f0 c.f1 (qL c.f2 (qL c.f3 (sL c.f4 (fL c.f5 (kS c.f6 (mL c.f7 [.slice none 0 0]))))))))) 60 (0,0))):=⟨HRb.out⟩
 replace HRr : Aside0 (Kd.R k60 60 X0.drew base (fun k => True ∧ k ≠ n) v l):=⟨by apply Kd.R_drew;exact HRr.out⟩
 replace HBe : Aside0 (Below w.heap.size w X0.drew):=⟨below_drew1 HBe.out⟩
 replace HSz : Aside0 (X0.drew.heap.size = n + 1):=⟨HSz.out⟩
 obtain ⟨e5,e6,e7,e8⟩ : X0.drew.cell? ⟨g,5,none⟩ = some (.string m.f0) ∧ X0.drew.cell? ⟨g,6,none⟩ = some (.string m.f1) ∧ X0.drew.cell? ⟨g,7,none⟩ = some (.string m.f2) ∧ X0.drew.cell? ⟨g,8,none⟩ = some (.int .i64 pc):=⟨blk_cell HMb.out 5,blk_cell HMb.out 6,blk_cell HMb.out 7,blk_cell HMb.out 8⟩
 obtain ⟨o1,o26,o27,o28⟩ : X0.drew.cell? ⟨n,1,none⟩ = some (.int .i64 c.f1) ∧ X0.drew.cell? ⟨n,26,none⟩ = some (.string c.f4.f0.f0) ∧ X0.drew.cell? ⟨n,27,none⟩ = some (.string c.f4.f0.f1) ∧ X0.drew.cell? ⟨n,28,none⟩ = some (.string c.f4.f0.f2):=⟨blk_cell HRb.out 1,blk_cell HRb.out 26,blk_cell HRb.out 27,blk_cell HRb.out 28⟩
 have hfr:=blk_frozen HRb.out
 refine start_ (n:=13) (S:=fun w' => w'.cell? ⟨g,5,none⟩ = some (.string m.f0) ∧ w'.cell? ⟨g,6,none⟩ = some (.string m.f1) ∧ w'.cell? ⟨g,7,none⟩ = some (.string m.f2) ∧ w'.cell? ⟨g,8,none⟩ = some (.int .i64 pc)) (ds:=[12]) (Array.replicate 13 false) (by kernel_rfl) rfl rfl ⟨e5,e6,e7,e8⟩ (fun hHeld => ?_)
 generalize X0.drew = X1 at HMb HRb HRr HBe HSz e5 e6 e7 e8 o1 o26 o27 o28 hfr hHeld ⊢
 refine sP (i:=0) (N:=some 4) ?_
 refine sP (i:=1) (N:=some 5) ?_
 refine sP (i:=2) (N:=some 6) ?_
 refine sP (i:=4) (N:=some 8) ?_
 refine sP (i:=5) (N:=some 9) ?_
 refine sP (i:=6) (N:=some 10) ?_
 refine sT (i:=3) (N:=some 7) hHeld ?_
 refine sP (i:=8) (N:=some 12) ?_
 refine sT (i:=7) (N:=some 11) hHeld ?_
 refine sO (i:=9) (N:=none) fun K hK => ?_
 refine skip_ (w1:=?_) (by rfl) rfl ?_ ?_
 rotate_left
 ·
  go_simp
  rfl
 refine hK.out _ _ ⟨((cell_far (p:=⟨n,1,none⟩) (a:=⟨g,5,none⟩) hne _).trans e5),((cell_far (p:=⟨n,1,none⟩) (a:=⟨g,6,none⟩) hne _).trans e6),((cell_far (p:=⟨n,1,none⟩) (a:=⟨g,7,none⟩) hne _).trans e7),((cell_far (p:=⟨n,1,none⟩) (a:=⟨g,8,none⟩) hne _).trans e8)⟩ (fun hHeld => ?_)
 clear hK K
 refine sP (i:=10) (N:=some 13) ?_
 refine sP (i:=11) (N:=some 14) ?_
 refine sX (i:=12) (N:=none) fun K hK => ?_
 refine skip_ (w1:=?_) (by rfl) rfl ?_ ?_
 rotate_left
 ·
  go_simp
  rfl
 refine hK.out _ _ ?_
 clear hK K
 refine done_ (by kernel_rfl) ?_
 have HMb:=aq (show ((((X1.setCell ⟨n,1,none⟩ (.int .i64 pc)).setCell ⟨n,26,none⟩ (.string m.f0)).setCell ⟨n,27,none⟩ (.string m.f1)).setCell ⟨n,28,none⟩ (.string m.f2)).heap[g]? = some (Obj.cells #[a0,a1,a2,a3,a4,.string m.f0,.string m.f1,.string m.f2,.int .i64 pc,b0,b1,b2,b3,b4,b5,b6,b7,b8,v] 85 (0,0)) from by rw [Below.heap_setCell _ _ _ _ hne,Below.heap_setCell _ _ _ _ hne,Below.heap_setCell _ _ _ _ hne,Below.heap_setCell _ _ _ _ hne];exact HMb.out)
 have HRb:=aq (show ((((X1.setCell ⟨n,1,none⟩ (.int .i64 pc)).setCell ⟨n,26,none⟩ (.string m.f0)).setCell ⟨n,27,none⟩ (.string m.f1)).setCell ⟨n,28,none⟩ (.string m.f2)).heap[n]? = some (Obj.cells (List.toArray ((kK c.f0 pc (qL c.f2 (qL c.f3 (sM m c.f4.f1 c.f4.f2 (fL c.f5 (kS c.f6 (mL c.f7 [.slice none 0 0]))))))))) 60 (0,0)) from (blk_put (cs:=(List.toArray ((kK c.f0 pc (qL c.f2 (qL c.f3 ((.string m.f0) :: (.string m.f1) :: (.string c.f4.f0.f2) :: (.int .i64 c.f4.f1) :: (.string c.f4.f2) :: (fL c.f5 (kS c.f6 (mL c.f7 [.slice none 0 0])))))))))) (blk_put (cs:=(List.toArray ((kK c.f0 pc (qL c.f2 (qL c.f3 ((.string m.f0) :: (.string c.f4.f0.f1) :: (.string c.f4.f0.f2) :: (.int .i64 c.f4.f1) :: (.string c.f4.f2) :: (fL c.f5 (kS c.f6 (mL c.f7 [.slice none 0 0])))))))))) (blk_put (cs:=(List.toArray ((kK c.f0 pc (qL c.f2 (qL c.f3 (sL c.f4 (fL c.f5 (kS c.f6 (mL c.f7 [.slice none 0 0])))))))))) (blk_put (cs:=(List.toArray ((kK c.f0 c.f1 (qL c.f2 (qL c.f3 (sL c.f4 (fL c.f5 (kS c.f6 (mL c.f7 [.slice none 0 0])))))))))) HRb.out 1 (.int .i64 pc) rfl) 26 (.string m.f0) rfl) 27 (.string m.f1) rfl) 28 (.string m.f2) rfl))
 have HRr:=aq (show Kd.R k60 60 ((((X1.setCell ⟨n,1,none⟩ (.int .i64 pc)).setCell ⟨n,26,none⟩ (.string m.f0)).setCell ⟨n,27,none⟩ (.string m.f1)).setCell ⟨n,28,none⟩ (.string m.f2)) base (fun k => True ∧ k ≠ n) v l from (Kd.R_far (p:=⟨n,28,none⟩) (Kd.R_far (p:=⟨n,27,none⟩) (Kd.R_far (p:=⟨n,26,none⟩) (Kd.R_far (p:=⟨n,1,none⟩) HRr.out (fun _ hk => hk.2) (.int .i64 pc)) (fun _ hk => hk.2) (.string m.f0)) (fun _ hk => hk.2) (.string m.f1)) (fun _ hk => hk.2) (.string m.f2)))
 have HBe:=aq (show Below w.heap.size w ((((X1.setCell ⟨n,1,none⟩ (.int .i64 pc)).setCell ⟨n,26,none⟩ (.string m.f0)).setCell ⟨n,27,none⟩ (.string m.f1)).setCell ⟨n,28,none⟩ (.string m.f2)) from ((((HBe.out.setCell hnn (.int .i64 pc)).setCell hnn (.string m.f0)).setCell hnn (.string m.f1)).setCell hnn (.string m.f2)))
 have HSz:=aq (show ((((X1.setCell ⟨n,1,none⟩ (.int .i64 pc)).setCell ⟨n,26,none⟩ (.string m.f0)).setCell ⟨n,27,none⟩ (.string m.f1)).setCell ⟨n,28,none⟩ (.string m.f2)).heap.size = n + 1 from by rw [World.size_setCell,World.size_setCell,World.size_setCell,World.size_setCell];exact HSz.out)
 generalize ((((X1.setCell ⟨n,1,none⟩ (.int .i64 pc)).setCell ⟨n,26,none⟩ (.string m.f0)).setCell ⟨n,27,none⟩ (.string m.f1)).setCell ⟨n,28,none⟩ (.string m.f2)) = W1 at HMb HRb HRr HBe HSz ⊢
 clear e5 e6 e7 e8 o1 o26 o27 o28 hfr hHeld
 have d0 : W1.cell? ⟨n,0,none⟩ = some (.int .i64 c.f0):=blk_cell HRb.out 0
 have e8 : W1.cell? ⟨g,8,none⟩ = some (.int .i64 pc):=blk_cell HMb.out 8
 have hfr:=blk_frozen HRb.out
 have o29 : W1.cell? ⟨n,29,none⟩ = some (.int .i64 c.f4.f1):=blk_cell HRb.out 29
 go_wp2_with fail
 have HMb:=aq (show (W1.setCell ⟨n,29,none⟩ (.int .i64 pc)).heap[g]? = some (Obj.cells #[a0,a1,a2,a3,a4,.string m.f0,.string m.f1,.string m.f2,.int .i64 pc,b0,b1,b2,b3,b4,b5,b6,b7,b8,v] 85 (0,0)) from by rw [Below.heap_setCell _ _ _ _ hne];exact HMb.out)
 have HRb:=aq (show (W1.setCell ⟨n,29,none⟩ (.int .i64 pc)).heap[n]? = some (Obj.cells (List.toArray ((kK c.f0 pc (qL c.f2 (qL c.f3 (sM m pc c.f4.f2 (fL c.f5 (kS c.f6 (mL c.f7 [.slice none 0 0]))))))))) 60 (0,0)) from (blk_put (cs:=(List.toArray ((kK c.f0 pc (qL c.f2 (qL c.f3 (sM m c.f4.f1 c.f4.f2 (fL c.f5 (kS c.f6 (mL c.f7 [.slice none 0 0])))))))))) HRb.out 29 (.int .i64 pc) rfl))
 have HRr:=aq (show Kd.R k60 60 (W1.setCell ⟨n,29,none⟩ (.int .i64 pc)) base (fun k => True ∧ k ≠ n) v l from (Kd.R_far (p:=⟨n,29,none⟩) HRr.out (fun _ hk => hk.2) (.int .i64 pc)))
 have HBe:=aq (show Below w.heap.size w (W1.setCell ⟨n,29,none⟩ (.int .i64 pc)) from (HBe.out.setCell hnn (.int .i64 pc)))
 have HSz:=aq (show (W1.setCell ⟨n,29,none⟩ (.int .i64 pc)).heap.size = n + 1 from by rw [World.size_setCell];exact HSz.out)
 generalize (W1.setCell ⟨n,29,none⟩ (.int .i64 pc)) = W2 at HMb HRb HRr HBe HSz ⊢
 replace HMb : Aside0 (W2.drew.heap[g]? = some (Obj.cells #[a0,a1,a2,a3,a4,.string m.f0,.string m.f1,.string m.f2,.int .i64 pc,b0,b1,b2,b3,b4,b5,b6,b7,b8,v] 85 (0,0))):=⟨HMb.out⟩
 replace HRr : Aside0 (Kd.R k60 60 W2.drew base (fun k => True ∧ k ≠ n) v l):=⟨by apply Kd.R_drew;exact HRr.out⟩
 replace HBe : Aside0 (Below w.heap.size w W2.drew):=⟨below_drew1 HBe.out⟩
 replace HSz : Aside0 (W2.drew.heap.size = n + 1):=⟨HSz.out⟩
 have q18 : W2.drew.cell? ⟨g,18,none⟩ = some v:=blk_cell HMb.out 18
 have qf : Aside0 (W2.drew.frozen? ⟨g,18,none⟩ = false):=⟨blk_frozen HMb.out 18⟩
 have rb : W2.drew.heap[n]? = some (Obj.cells (List.toArray ((kK c.f0 pc (qL c.f2 (qL c.f3 (sM m pc c.f4.f2 (fL c.f5 (kS c.f6 (mL c.f7 [.slice none 0 0]))))))))) 60 (0,0)):=HRb.out
 have HBz : Aside0 (base ≤ W2.drew.heap.size):=⟨by have:=HSz.out;omega⟩
 have HGlt : Aside0 ((⟨g,18,none⟩ : Addr).block < W2.drew.heap.size):=⟨by have:=HSz.out;show g < W2.drew.heap.size;omega⟩
 have HPne : Aside0 (some n ≠ v.ownBlock):=⟨fun e => by have:=HVlt.out _ e.symm;omega⟩
 refine start_ (n:=11) (S:=fun w' => w'.cell? ⟨g,18,none⟩ = some v ∧ w'.heap[n]? = some (Obj.cells (List.toArray ((kK c.f0 pc (qL c.f2 (qL c.f3 (sM m pc c.f4.f2 (fL c.f5 (kS c.f6 (mL c.f7 [.slice none 0 0]))))))))) 60 (0,0))) (ds:=[10]) (Array.replicate 11 false) (by kernel_rfl) rfl rfl ⟨q18,rb⟩ (fun hHeld => ?_)
 generalize W2.drew = X at HMb HRr HBe HSz HBz HGlt qf q18 rb hHeld ⊢
 refine sP (i:=0) (N:=some 24) ?_
 refine sP (i:=1) (N:=some 25) ?_
 refine sP (i:=2) (N:=some 26) ?_
 refine sP (i:=3) (N:=some 27) ?_
 refine sT (i:=4) (N:=some 28) hHeld ?_
 refine take_ (i:=5) (N:=some 29) (a':=?_) #[true,true,true,true,true,true,false,false,false,false,false] rfl rfl (by kernel_rfl) (fun _ _ _ h => h) (yieldsIf_load_mid (by rfl) 60 (.tmp 3) rfl n 0 rfl ((kK c.f0 pc (qL c.f2 (qL c.f3 (sM m pc c.f4.f2 (fL c.f5 (kS c.f6 (mL c.f7 [.slice none 0 0])))))))) _ (fun w' hw' => rangeAt_blk hw'.2) Try.underlying60 rfl (by kernel_rfl)) hHeld ?_ ?_
 rotate_left
 ·
  simp only [Act.put,List.setIfInBounds_toArray,List.set_cons_zero,List.set_cons_succ,i64_w,i32_w]
  rfl
 refine sO (i:=6) (N:=some 30) fun K hK => ?_
 refine value_ (w1:=?_) (v:=?_) (by rfl) rfl ?_ ?_
 rotate_left 2
 ·
  go_simp
  constructor
  ·
   rfl
  ·
   rfl
 refine hK.out _ _ ⟨(((below_alloc (Below.refl _ _) _).cell (World.block_lt_of_cell? _ _ q18)).trans q18),(blk_alloc rb _)⟩ (fun hHeld => ?_)
 clear hK K
 refine sN ?_
 refine sO (i:=7) (N:=some 31) fun K hK => ?_
 refine Kd.R_append_step k60 (w0:=w) base (by rfl) _ _ 62 60 _ 544 rfl Try.underlying62 cons_info rfl (by decide) (by decide) v l (⟨c.f0,pc,c.f2,c.f3,⟨m,pc,c.f4.f2⟩,c.f5,c.f6,c.f7,c.f8⟩ : S60) ((kK c.f0 pc (qL c.f2 (qL c.f3 (sM m pc c.f4.f2 (fL c.f5 (kS c.f6 (mL c.f7 [.slice none 0 0])))))))) (fun k => True ∧ k ≠ n) (fun _ => False) rfl (by rfl) (k60_mkM _ _ _ (⟨c.f0,pc,c.f2,c.f3,⟨m,pc,c.f4.f2⟩,c.f5,c.f6,c.f7,c.f8⟩ : S60) (v37:=.slice none 0 0) (HNil.out _ _)) (fun _ hk => hk.elim) (fun k hk => ⟨trivial,by have:=HSz.out;omega⟩) HRr.out (HBe.out.mono HBW.out) HBz.out HLn.out ?_
 intro v' w2 hR2 hB2 hg2 hat2
 obtain ⟨Av,nv,cv,hv⟩ : ∃ A n c,v' = Value.slice A n c:=by obtain ⟨A,c,e⟩:=Kd.R_slice hR2;exact ⟨A,_,c,e⟩
 subst hv
 have HR2:=aq (Kd.R_mono hR2 (fun _ _ => trivial))
 have HB2:=aq hB2
 have HG2:=aq hg2
 have HT2:=aq hat2
 have q18':=hg2.cell q18 HVne.out
 have tf:=(hg2.frozen_far ⟨g,18,none⟩ HGlt.out HVne.out).trans qf.out
 have rb':=blk_grown rb hg2 HPne.out
 clear hR2 hB2 hg2 hat2
 refine hK.out _ _ ⟨q18',rb'⟩ (fun hHeld => ?_)
 clear hK K
 refine sN ?_
 refine sP (i:=8) (N:=some 32) ?_
 refine sP (i:=9) (N:=some 33) ?_
 refine sX (i:=10) (N:=none) fun K hK => ?_
 refine skip_ (w1:=?_) (by rfl) rfl ?_ ?_
 rotate_left
 ·
  go_simp
  rfl
 refine hK.out _ _ ?_
 clear hK K
 refine done_ (by kernel_rfl) ?_
 go_wp2_with fail
 have hfin:=MkOwn.put (w:=w) (MkOwn.mk HMb.out HB0 (Kd.R_mono HRr.out (fun _ _ => trivial))) HR2.out HG2.out HB2.out
 have hkp : Kp w (w2.setCell ⟨g,18,none⟩ (.slice Av nv cv)) g v (.slice Av nv cv):=Kp.mk' HBe.out HG2.out HT2.out
 first
  | exact bodyPost_end (v:=.tuple #[]) (by simp [results,Try.results61,go_sem]) rfl ⟨rfl,⟨_,hfin.1,hfin.2,hkp⟩⟩
  | exact bodyPost_end (v:=.tuple #[]) (by simp [results,Try.f61,go_sem]) rfl ⟨rfl,⟨_,hfin.1,hfin.2,hkp⟩⟩
  | exact bodyPost_ret (v:=.tuple #[]) (by simp [results,Try.results61,go_sem]) rfl ⟨rfl,⟨_,hfin.1,hfin.2,hkp⟩⟩
end Go.Proofs.Ytfplcohjnlbfjaa.Hand
end

section
namespace Go.Proofs.Ytfplcohjnlbfjaa.Q43
open Go.RowKit Go.Proofs.YtfplcohjnlbfjaaW
open PrintWords PrintLast PrintMore Go.Proofs.Ytfplcohjnlbfjaa.Hand
attribute [local go_sem] max2_int min2_int max_two min_two max_three min_three max_four min_four
def errW : Option Int → Value
  | none => .nilIface
  | some c => .iface 0 (.int .i64 c)
theorem errW_none : errW none = .nilIface := rfl
theorem errW_some (c : Int) : errW (some c) = .iface 0 (.int .i64 c) := rfl
end Go.Proofs.Ytfplcohjnlbfjaa.Q43
end
