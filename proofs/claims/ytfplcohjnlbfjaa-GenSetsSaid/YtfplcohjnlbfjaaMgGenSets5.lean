import Derived.Test.YtfplcohjnlbfjaaMgGenSets1
import Derived.Test.YtfplcohjnlbfjaaMgGenSets2
import Derived.Test.YtfplcohjnlbfjaaMgGenSets3
import Derived.Test.YtfplcohjnlbfjaaMgGenSets4
import Derived.WalkSpells
set_option linter.unusedVariables false
set_option linter.unusedSimpArgs false
set_option maxHeartbeats 64000000
set_option maxRecDepth 100000
section
namespace Go.Proofs.Ytfplcohjnlbfjaa.HandV
open Go.Proofs.Ytfplcohjnlbfjaa.Hand Go.RowKit Go.Proofs.YtfplcohjnlbfjaaW.PrintWords Go.Proofs.YtfplcohjnlbfjaaW.PrintLast Go.Proofs.YtfplcohjnlbfjaaW.PrintMore
def usesR (x : S74) : List Int :=
 if x.f0 = 4 ∨ x.f0 = 25 ∨ x.f0 = 13 ∨ x.f0 = 15 then [x.f1,x.f2] else if x.f0 = 14 then [x.f1,x.f3] else if x.f0 = 16 then [x.f2,x.f3] else if x.f0 = 18 then [x.f3] else if x.f0 = 22 then [x.f2]
 else if x.f0 = 19 ∨ x.f0 = 20 ∨ x.f0 = 21 then x.f1 :: x.f8 else [x.f1]
def Asked (m : S25) (pc : Int) (x : S74) (ins : List CV) (sets : Bool) : Prop :=
 (∀ c ∈ ins,c.f1 = pc ∧ c.f4.f0 = m ∧ (c.f2.f0 = 1 → c.f2.f1 = m ∧ c.f2.f2 ∈ usesR x) ∧ (c.f3.f0 = 1 → c.f3.f1 = m ∧ c.f3.f2 ∈ usesR x)) ∧ (sets = true → ∃ c ∈ ins,c.f2 = (⟨1,m,x.f1,z44,z46⟩ : S50))
theorem asked_nil {m : S25} {pc : Int} {x : S74} : Asked m pc x [] false := ⟨fun _ h => (by cases h), fun h => (by cases h)⟩
theorem asked_cons {m : S25} {pc : Int} {x : S74} {c : CV} {ins : List CV} {s : Bool} (h1 : c.f1 = pc) (h2 : c.f4.f0 = m) (h3 : c.f2.f0 = 1 → c.f2.f1 = m ∧ c.f2.f2 ∈ usesR x) (h4 : c.f3.f0 = 1 → c.f3.f1 = m ∧ c.f3.f2 ∈ usesR x) (h : Asked m pc x ins s) : Asked m pc x (c :: ins) s :=
 ⟨fun d hd => by
  rcases List.mem_cons.1 hd with rfl|hd
  ·
   exact ⟨h1,h2,h3,h4⟩
  ·
   exact h.1 d hd,fun hs => by obtain ⟨d,hd,he⟩:=h.2 hs;exact ⟨d,List.mem_cons_of_mem _ hd,he⟩⟩
theorem asked_set {m : S25} {pc : Int} {x : S74} {c : CV} {ins : List CV} (h1 : c.f1 = pc) (h2 : c.f4.f0 = m) (h3 : c.f2 = (⟨1, m, x.f1, z44, z46⟩ : S50)) (h3b : x.f1 ∈ usesR x) (h4 : c.f3.f0 = 1 → c.f3.f1 = m ∧ c.f3.f2 ∈ usesR x) (h : Asked m pc x ins false) {s : Bool} : Asked m pc x (c :: ins) s :=
 ⟨fun d hd => by
  rcases List.mem_cons.1 hd with rfl|hd
  ·
   exact ⟨h1,h2,fun _ => by rw [h3];exact ⟨rfl,h3b⟩,h4⟩
  ·
   exact h.1 d hd,fun hs => ⟨c,List.mem_cons_self,h3⟩⟩
structure IvS (w W : World) (base g : Nat) (a0 a1 a2 a3 a4 : Value) (m : S25) (pc : Int) (b0 b1 b2 b3 b4 b5 b6 b7 b8 : Value) (v0 v : Value) (l : List CV) (n : Nat) (cs : Array Value) (ty : TypeId) : Prop where
 hm : MkOwn W base g a0 a1 a2 a3 a4 m pc b0 b1 b2 b3 b4 b5 b6 b7 b8 v l
 hB : Below base w W
 hK : Kp w W g v0 v
 hz : W.heap[n]? = some (.cells cs ty (0,0))
 hn : n ≠ g
 hv : some n ≠ v.ownBlock
 hs : base ≤ W.heap.size
theorem Kp.ofBelow {w w' : World} {g : Nat} {v : Value} (h : Below w.heap.size w w') : Kp w w' g v v := ⟨⟨h.size, fun i hi _ _ => h.block i hi⟩, .inl rfl⟩
theorem IvS.start {w : World} {base g : Nat} {a0 a1 a2 a3 a4 : Value} {m : S25} {pc : Int} {b0 b1 b2 b3 b4 b5 b6 b7 b8 : Value} {v : Value} {l : List CV} (hm : MkOwn w base g a0 a1 a2 a3 a4 m pc b0 b1 b2 b3 b4 b5 b6 b7 b8 v l) (hbz : base ≤ w.heap.size) (cs : Array Value) (ty : TypeId) : IvS w (w.alloc (.cells cs ty)) base g a0 a1 a2 a3 a4 m pc b0 b1 b2 b3 b4 b5 b6 b7 b8 v v l w.heap.size cs ty :=
 have hab:=below_alloc (Below.refl w.heap.size w) (.cells cs ty)
 ⟨hm.below hab hbz,hab.mono hbz,Kp.ofBelow hab,World.alloc_heap_new w _,Nat.ne_of_gt (blk_lt hm.b),fun e => by have:=Kd.R_lt hm.r _ e.symm;omega,Nat.le_trans hbz hab.size⟩
theorem IvS.below {w W W' : World} {base g : Nat} {a0 a1 a2 a3 a4 : Value} {m : S25} {pc : Int} {b0 b1 b2 b3 b4 b5 b6 b7 b8 : Value} {v0 v : Value} {l : List CV} {n : Nat} {cs : Array Value} {ty : TypeId} (h : IvS w W base g a0 a1 a2 a3 a4 m pc b0 b1 b2 b3 b4 b5 b6 b7 b8 v0 v l n cs ty) (hb : Below W.heap.size W W') : IvS w W' base g a0 a1 a2 a3 a4 m pc b0 b1 b2 b3 b4 b5 b6 b7 b8 v0 v l n cs ty :=
 ⟨h.hm.below hb h.hs,h.hB.trans (hb.mono h.hs),h.hK.trans (Kp.ofBelow hb),blk_below h.hz hb,h.hn,h.hv,Nat.le_trans h.hs hb.size⟩
theorem IvS.put {w W W' : World} {base g : Nat} {a0 a1 a2 a3 a4 : Value} {m : S25} {pc : Int} {b0 b1 b2 b3 b4 b5 b6 b7 b8 : Value} {v0 v v' : Value} {l l' : List CV} {n : Nat} {cs : Array Value} {ty : TypeId} (h : IvS w W base g a0 a1 a2 a3 a4 m pc b0 b1 b2 b3 b4 b5 b6 b7 b8 v0 v l n cs ty) (hm : MkOwn W' base g a0 a1 a2 a3 a4 m pc b0 b1 b2 b3 b4 b5 b6 b7 b8 v' l') (hb : Below base W W') (hk : Kp W W' g v v') : IvS w W' base g a0 a1 a2 a3 a4 m pc b0 b1 b2 b3 b4 b5 b6 b7 b8 v0 v' l' n cs ty :=
 ⟨hm,h.hB.trans hb,h.hK.trans hk,hk.blk h.hz h.hn h.hv,h.hn,by
  rcases hk.2 with e|⟨b,e,hb⟩
  ·
   rw [e];exact h.hv
  ·
   rw [e]
   intro he
   injection he with he
   have:=blk_lt h.hz
   omega,Nat.le_trans h.hs hk.1.1⟩
theorem iv_move (base g : Nat) (a0 a1 a2 a3 a4 : Value) (m : S25) (pc : Int) (ia ib ic id : Int) (s5 s6 s7 : ByteArray) (A8 : Option Addr) (n8 c8 : Nat) (ags : List Int) (v : Value) (l : List CV) (w : World) (hm : MkOwn w base g a0 a1 a2 a3 a4 m pc (.int .i64 4) (.int .i64 ia) (.int .i64 ib) (.int .i64 ic) (.int .i64 id) (.string s5) (.string s6) (.string s7) (.slice A8 n8 c8) v l) (hl : l.length + 2 ≤ 1048576) (hbz : base ≤ w.heap.size) :
  Calls Try.prog 46 #[.pointer (some ⟨g,0,none⟩)] w fun e w' => ∃ v' ins,e = .returned (.tuple #[]) ∧ MkOwn w' base g a0 a1 a2 a3 a4 m pc (.int .i64 4) (.int .i64 ia) (.int .i64 ib) (.int .i64 ic) (.int .i64 id) (.string s5) (.string s6) (.string s7) (.slice A8 n8 c8) v' (l ++ ins) ∧ ins.length ≤ 3 ∧ Asked m pc (⟨4,ia,ib,ic,id,s5,s6,s7,ags⟩ : S74) ins true ∧ Below base w w' ∧ Kp w w' g v v':=by
 have HS0:=aq (IvS.start hm hbz #[.int .i64 4,.int .i64 ia,.int .i64 ib,.int .i64 ic,.int .i64 id,.string s5,.string s6,.string s7,.slice A8 n8 c8] 74)
 have HL:=aq hl
 obtain ⟨e9,e10,e11,e12,e13,e14,e15,e16,e17⟩ : w.cell? ⟨g,9,none⟩ = some (.int .i64 4) ∧ w.cell? ⟨g,10,none⟩ = some (.int .i64 ia) ∧ w.cell? ⟨g,11,none⟩ = some (.int .i64 ib) ∧ w.cell? ⟨g,12,none⟩ = some (.int .i64 ic) ∧ w.cell? ⟨g,13,none⟩ = some (.int .i64 id) ∧ w.cell? ⟨g,14,none⟩ = some (.string s5) ∧ w.cell? ⟨g,15,none⟩ = some (.string s6) ∧ w.cell? ⟨g,16,none⟩ = some (.string s7) ∧ w.cell? ⟨g,17,none⟩ = some (.slice A8 n8 c8):=⟨blk_cell hm.b 9,blk_cell hm.b 10,blk_cell hm.b 11,blk_cell hm.b 12,blk_cell hm.b 13,blk_cell hm.b 14,blk_cell hm.b 15,blk_cell hm.b 16,blk_cell hm.b 17⟩
 clear hm hbz hl
 go_enter Try.func46,Try.ntmps46
 go_wp2_with fail
 clear e9 e10 e11 e12 e13 e14 e15 e16 e17
 have HS : Aside0 (IvS w (w.alloc (Obj.cells #[.int .i64 4,.int .i64 ia,.int .i64 ib,.int .i64 ic,.int .i64 id,.string s5,.string s6,.string s7,.slice A8 n8 c8] 74)).drew base g a0 a1 a2 a3 a4 m pc (.int .i64 4) (.int .i64 ia) (.int .i64 ib) (.int .i64 ic) (.int .i64 id) (.string s5) (.string s6) (.string s7) (.slice A8 n8 c8) v v l w.heap.size #[.int .i64 4,.int .i64 ia,.int .i64 ib,.int .i64 ic,.int .i64 id,.string s5,.string s6,.string s7,.slice A8 n8 c8] 74):=⟨HS0.out.below (below_drew1 (Below.refl _ _))⟩
 have z0 : (w.alloc (Obj.cells #[.int .i64 4,.int .i64 ia,.int .i64 ib,.int .i64 ic,.int .i64 id,.string s5,.string s6,.string s7,.slice A8 n8 c8] 74)).drew.cell? ⟨w.heap.size,1,none⟩ = some (.int .i64 ia):=blk_cell HS.out.hz 1
 have z1 : (w.alloc (Obj.cells #[.int .i64 4,.int .i64 ia,.int .i64 ib,.int .i64 ic,.int .i64 id,.string s5,.string s6,.string s7,.slice A8 n8 c8] 74)).drew.cell? ⟨w.heap.size,2,none⟩ = some (.int .i64 ib):=blk_cell HS.out.hz 2
 go_wp2_with fail
 refine start_ (n:=10) (S:=fun w' => w'.cell? ⟨w.heap.size,1,none⟩ = some (.int .i64 ia) ∧ w'.cell? ⟨w.heap.size,2,none⟩ = some (.int .i64 ib)) (ds:=[9]) (Array.replicate 10 false) (by kernel_rfl) rfl rfl ⟨z0,z1⟩ (fun hHeld => ?_)
 generalize (w.alloc (Obj.cells #[.int .i64 4,.int .i64 ia,.int .i64 ib,.int .i64 ic,.int .i64 id,.string s5,.string s6,.string s7,.slice A8 n8 c8] 74)).drew = X at HS z0 z1 hHeld ⊢
 refine sP (i:=0) (N:=some 11) ?_
 refine sP (i:=1) (N:=some 12) ?_
 refine sP (i:=2) (N:=some 13) ?_
 refine sP (i:=5) (N:=some 16) ?_
 refine sP (i:=6) (N:=some 17) ?_
 refine sT (i:=3) (N:=some 14) hHeld ?_
 refine sT (i:=7) (N:=some 18) hHeld ?_
 refine sO (i:=4) (N:=some 15) fun K hK => ?_
 refine sG Try.func38 #[.pointer (some ⟨g,0,none⟩),.int .i64 ia] ?_
 refine (maker_reg g a0 a1 a2 a3 a4 m pc (.int .i64 4) (.int .i64 ia) (.int .i64 ib) (.int .i64 ic) (.int .i64 id) (.string s5) (.string s6) (.string s7) (.slice A8 n8 c8) v ia X HS.out.hm.b).mono ?_
 rintro e w1 ⟨rfl,hb⟩
 refine ⟨_,rfl,?_⟩
 have y0:=sC hb z0
 have y1:=sC hb z1
 have HS1:=aq (HS.out.below hb)
 clear hb
 refine hK.out _ _ ⟨y0,y1⟩ (fun hHeld => ?_)
 clear hK K
 refine sN ?_
 refine sO (i:=8) (N:=some 19) fun K hK => ?_
 refine sG Try.func38 #[.pointer (some ⟨g,0,none⟩),.int .i64 ib] ?_
 refine (maker_reg g a0 a1 a2 a3 a4 m pc (.int .i64 4) (.int .i64 ia) (.int .i64 ib) (.int .i64 ic) (.int .i64 id) (.string s5) (.string s6) (.string s7) (.slice A8 n8 c8) v ib w1 HS1.out.hm.b).mono ?_
 rintro e w2 ⟨rfl,hb⟩
 refine ⟨_,rfl,?_⟩
 have x0:=sC hb y0
 have x1:=sC hb y1
 have HS2:=aq (HS1.out.below hb)
 clear hb
 refine hK.out _ _ ⟨x0,x1⟩ (fun hHeld => ?_)
 clear hK K
 refine sN ?_
 refine sX (i:=9) (N:=some 20) fun K hK => ?_
 refine sG Try.func37 #[.pointer (some ⟨g,0,none⟩),.agg (List.toArray (qR 1 m ia [])),.agg (List.toArray (qR 1 m ib [])),.string ⟨#[]⟩] ?_
 refine (maker_flows base g a0 a1 a2 a3 a4 m pc (.int .i64 4) (.int .i64 ia) (.int .i64 ib) (.int .i64 ic) (.int .i64 id) (.string s5) (.string s6) (.string s7) (.slice A8 n8 c8) v l (⟨1,m,ia,z44,z46⟩ : S50) (⟨1,m,ib,z44,z46⟩ : S50) ⟨#[]⟩ w2 HS2.out.hm (by have:=HL.out;omega) HS2.out.hs).mono ?_
 rintro e w3 ⟨v3,rfl,hm3,hb3,hk3⟩
 refine ⟨_,rfl,?_⟩
 have HS3:=aq (HS2.out.put hm3 hb3 hk3)
 clear hm3 hb3 hk3
 refine hK.out _ _ ?_
 clear hK K
 refine sN ?_
 refine done_ (by kernel_rfl) ?_
 go_wp2_with fail
 exact bodyPost_end (v:=.tuple #[]) (by simp [results,Try.results46,go_sem]) rfl (by first|exact ⟨_,[(⟨2,pc,(⟨1,m,ia,z44,z46⟩ : S50),(⟨1,m,ib,z44,z46⟩ : S50),⟨m,0,⟨#[]⟩⟩,z44,⟨#[]⟩,z25,noSl⟩ : CV)],rfl,HS3.out.hm,Nat.le_of_ble_eq_true rfl,(asked_set rfl rfl rfl (by simp [usesR]) (fun _ => ⟨rfl,by simp [usesR]⟩) asked_nil),HS3.out.hB,HS3.out.hK⟩|exact ⟨rfl,_,[(⟨2,pc,(⟨1,m,ia,z44,z46⟩ : S50),(⟨1,m,ib,z44,z46⟩ : S50),⟨m,0,⟨#[]⟩⟩,z44,⟨#[]⟩,z25,noSl⟩ : CV)],HS3.out.hm,Nat.le_of_ble_eq_true rfl,(asked_set rfl rfl rfl (by simp [usesR]) (fun _ => ⟨rfl,by simp [usesR]⟩) asked_nil),HS3.out.hB,HS3.out.hK⟩)
theorem iv_cast (base g : Nat) (a0 a1 a2 a3 a4 : Value) (m : S25) (pc : Int) (ia ib ic id : Int) (s5 s6 s7 : ByteArray) (A8 : Option Addr) (n8 c8 : Nat) (ags : List Int) (v : Value) (l : List CV) (w : World) (hm : MkOwn w base g a0 a1 a2 a3 a4 m pc (.int .i64 25) (.int .i64 ia) (.int .i64 ib) (.int .i64 ic) (.int .i64 id) (.string s5) (.string s6) (.string s7) (.slice A8 n8 c8) v l) (hl : l.length + 2 ≤ 1048576) (hbz : base ≤ w.heap.size) :
  Calls Try.prog 46 #[.pointer (some ⟨g,0,none⟩)] w fun e w' => ∃ v' ins,e = .returned (.tuple #[]) ∧ MkOwn w' base g a0 a1 a2 a3 a4 m pc (.int .i64 25) (.int .i64 ia) (.int .i64 ib) (.int .i64 ic) (.int .i64 id) (.string s5) (.string s6) (.string s7) (.slice A8 n8 c8) v' (l ++ ins) ∧ ins.length ≤ 3 ∧ Asked m pc (⟨25,ia,ib,ic,id,s5,s6,s7,ags⟩ : S74) ins true ∧ Below base w w' ∧ Kp w w' g v v':=by
 have HS0:=aq (IvS.start hm hbz #[.int .i64 25,.int .i64 ia,.int .i64 ib,.int .i64 ic,.int .i64 id,.string s5,.string s6,.string s7,.slice A8 n8 c8] 74)
 have HL:=aq hl
 obtain ⟨e9,e10,e11,e12,e13,e14,e15,e16,e17⟩ : w.cell? ⟨g,9,none⟩ = some (.int .i64 25) ∧ w.cell? ⟨g,10,none⟩ = some (.int .i64 ia) ∧ w.cell? ⟨g,11,none⟩ = some (.int .i64 ib) ∧ w.cell? ⟨g,12,none⟩ = some (.int .i64 ic) ∧ w.cell? ⟨g,13,none⟩ = some (.int .i64 id) ∧ w.cell? ⟨g,14,none⟩ = some (.string s5) ∧ w.cell? ⟨g,15,none⟩ = some (.string s6) ∧ w.cell? ⟨g,16,none⟩ = some (.string s7) ∧ w.cell? ⟨g,17,none⟩ = some (.slice A8 n8 c8):=⟨blk_cell hm.b 9,blk_cell hm.b 10,blk_cell hm.b 11,blk_cell hm.b 12,blk_cell hm.b 13,blk_cell hm.b 14,blk_cell hm.b 15,blk_cell hm.b 16,blk_cell hm.b 17⟩
 clear hm hbz hl
 go_enter Try.func46,Try.ntmps46
 go_wp2_with fail
 clear e9 e10 e11 e12 e13 e14 e15 e16 e17
 have HS : Aside0 (IvS w (w.alloc (Obj.cells #[.int .i64 25,.int .i64 ia,.int .i64 ib,.int .i64 ic,.int .i64 id,.string s5,.string s6,.string s7,.slice A8 n8 c8] 74)).drew base g a0 a1 a2 a3 a4 m pc (.int .i64 25) (.int .i64 ia) (.int .i64 ib) (.int .i64 ic) (.int .i64 id) (.string s5) (.string s6) (.string s7) (.slice A8 n8 c8) v v l w.heap.size #[.int .i64 25,.int .i64 ia,.int .i64 ib,.int .i64 ic,.int .i64 id,.string s5,.string s6,.string s7,.slice A8 n8 c8] 74):=⟨HS0.out.below (below_drew1 (Below.refl _ _))⟩
 have z0 : (w.alloc (Obj.cells #[.int .i64 25,.int .i64 ia,.int .i64 ib,.int .i64 ic,.int .i64 id,.string s5,.string s6,.string s7,.slice A8 n8 c8] 74)).drew.cell? ⟨w.heap.size,1,none⟩ = some (.int .i64 ia):=blk_cell HS.out.hz 1
 have z1 : (w.alloc (Obj.cells #[.int .i64 25,.int .i64 ia,.int .i64 ib,.int .i64 ic,.int .i64 id,.string s5,.string s6,.string s7,.slice A8 n8 c8] 74)).drew.cell? ⟨w.heap.size,2,none⟩ = some (.int .i64 ib):=blk_cell HS.out.hz 2
 have z2 : (w.alloc (Obj.cells #[.int .i64 25,.int .i64 ia,.int .i64 ib,.int .i64 ic,.int .i64 id,.string s5,.string s6,.string s7,.slice A8 n8 c8] 74)).drew.cell? ⟨w.heap.size,5,none⟩ = some (.string s5):=blk_cell HS.out.hz 5
 go_wp2_with fail
 refine start_ (n:=12) (S:=fun w' => w'.cell? ⟨w.heap.size,1,none⟩ = some (.int .i64 ia) ∧ w'.cell? ⟨w.heap.size,2,none⟩ = some (.int .i64 ib) ∧ w'.cell? ⟨w.heap.size,5,none⟩ = some (.string s5)) (ds:=[11]) (Array.replicate 12 false) (by kernel_rfl) rfl rfl ⟨z0,z1,z2⟩ (fun hHeld => ?_)
 generalize (w.alloc (Obj.cells #[.int .i64 25,.int .i64 ia,.int .i64 ib,.int .i64 ic,.int .i64 id,.string s5,.string s6,.string s7,.slice A8 n8 c8] 74)).drew = X at HS z0 z1 z2 hHeld ⊢
 refine sP (i:=0) (N:=some 23) ?_
 refine sP (i:=1) (N:=some 24) ?_
 refine sP (i:=2) (N:=some 25) ?_
 refine sP (i:=5) (N:=some 28) ?_
 refine sP (i:=6) (N:=some 29) ?_
 refine sP (i:=9) (N:=some 32) ?_
 refine sT (i:=3) (N:=some 26) hHeld ?_
 refine sT (i:=7) (N:=some 30) hHeld ?_
 refine sT (i:=10) (N:=some 33) hHeld ?_
 refine sO (i:=4) (N:=some 27) fun K hK => ?_
 refine sG Try.func38 #[.pointer (some ⟨g,0,none⟩),.int .i64 ia] ?_
 refine (maker_reg g a0 a1 a2 a3 a4 m pc (.int .i64 25) (.int .i64 ia) (.int .i64 ib) (.int .i64 ic) (.int .i64 id) (.string s5) (.string s6) (.string s7) (.slice A8 n8 c8) v ia X HS.out.hm.b).mono ?_
 rintro e w1 ⟨rfl,hb⟩
 refine ⟨_,rfl,?_⟩
 have y0:=sC hb z0
 have y1:=sC hb z1
 have y2:=sC hb z2
 have HS1:=aq (HS.out.below hb)
 clear hb
 refine hK.out _ _ ⟨y0,y1,y2⟩ (fun hHeld => ?_)
 clear hK K
 refine sN ?_
 refine sO (i:=8) (N:=some 31) fun K hK => ?_
 refine sG Try.func38 #[.pointer (some ⟨g,0,none⟩),.int .i64 ib] ?_
 refine (maker_reg g a0 a1 a2 a3 a4 m pc (.int .i64 25) (.int .i64 ia) (.int .i64 ib) (.int .i64 ic) (.int .i64 id) (.string s5) (.string s6) (.string s7) (.slice A8 n8 c8) v ib w1 HS1.out.hm.b).mono ?_
 rintro e w2 ⟨rfl,hb⟩
 refine ⟨_,rfl,?_⟩
 have x0:=sC hb y0
 have x1:=sC hb y1
 have x2:=sC hb y2
 have HS2:=aq (HS1.out.below hb)
 clear hb
 refine hK.out _ _ ⟨x0,x1,x2⟩ (fun hHeld => ?_)
 clear hK K
 refine sN ?_
 refine sX (i:=11) (N:=some 34) fun K hK => ?_
 refine sG Try.func37 #[.pointer (some ⟨g,0,none⟩),.agg (List.toArray (qR 1 m ia [])),.agg (List.toArray (qR 1 m ib [])),.string s5] ?_
 refine (maker_flows base g a0 a1 a2 a3 a4 m pc (.int .i64 25) (.int .i64 ia) (.int .i64 ib) (.int .i64 ic) (.int .i64 id) (.string s5) (.string s6) (.string s7) (.slice A8 n8 c8) v l (⟨1,m,ia,z44,z46⟩ : S50) (⟨1,m,ib,z44,z46⟩ : S50) s5 w2 HS2.out.hm (by have:=HL.out;omega) HS2.out.hs).mono ?_
 rintro e w3 ⟨v3,rfl,hm3,hb3,hk3⟩
 refine ⟨_,rfl,?_⟩
 have HS3:=aq (HS2.out.put hm3 hb3 hk3)
 clear hm3 hb3 hk3
 refine hK.out _ _ ?_
 clear hK K
 refine sN ?_
 refine done_ (by kernel_rfl) ?_
 go_wp2_with fail
 exact bodyPost_end (v:=.tuple #[]) (by simp [results,Try.results46,go_sem]) rfl (by first|exact ⟨_,[(⟨2,pc,(⟨1,m,ia,z44,z46⟩ : S50),(⟨1,m,ib,z44,z46⟩ : S50),⟨m,0,⟨#[]⟩⟩,z44,s5,z25,noSl⟩ : CV)],rfl,HS3.out.hm,Nat.le_of_ble_eq_true rfl,(asked_set rfl rfl rfl (by simp [usesR]) (fun _ => ⟨rfl,by simp [usesR]⟩) asked_nil),HS3.out.hB,HS3.out.hK⟩|exact ⟨rfl,_,[(⟨2,pc,(⟨1,m,ia,z44,z46⟩ : S50),(⟨1,m,ib,z44,z46⟩ : S50),⟨m,0,⟨#[]⟩⟩,z44,s5,z25,noSl⟩ : CV)],HS3.out.hm,Nat.le_of_ble_eq_true rfl,(asked_set rfl rfl rfl (by simp [usesR]) (fun _ => ⟨rfl,by simp [usesR]⟩) asked_nil),HS3.out.hB,HS3.out.hK⟩)
theorem iv_return (base g : Nat) (a0 a1 a2 a3 a4 : Value) (m : S25) (pc : Int) (ia ib ic id : Int) (s5 s6 s7 : ByteArray) (A8 : Option Addr) (n8 c8 : Nat) (ags : List Int) (v : Value) (l : List CV) (w : World) (hm : MkOwn w base g a0 a1 a2 a3 a4 m pc (.int .i64 22) (.int .i64 ia) (.int .i64 ib) (.int .i64 ic) (.int .i64 id) (.string s5) (.string s6) (.string s7) (.slice A8 n8 c8) v l) (hl : l.length + 2 ≤ 1048576) (hbz : base ≤ w.heap.size) :
  Calls Try.prog 46 #[.pointer (some ⟨g,0,none⟩)] w fun e w' => ∃ v' ins,e = .returned (.tuple #[]) ∧ MkOwn w' base g a0 a1 a2 a3 a4 m pc (.int .i64 22) (.int .i64 ia) (.int .i64 ib) (.int .i64 ic) (.int .i64 id) (.string s5) (.string s6) (.string s7) (.slice A8 n8 c8) v' (l ++ ins) ∧ ins.length ≤ 3 ∧ Asked m pc (⟨22,ia,ib,ic,id,s5,s6,s7,ags⟩ : S74) ins false ∧ Below base w w' ∧ Kp w w' g v v':=by
 have HS0:=aq (IvS.start hm hbz #[.int .i64 22,.int .i64 ia,.int .i64 ib,.int .i64 ic,.int .i64 id,.string s5,.string s6,.string s7,.slice A8 n8 c8] 74)
 have HL:=aq hl
 obtain ⟨e9,e10,e11,e12,e13,e14,e15,e16,e17⟩ : w.cell? ⟨g,9,none⟩ = some (.int .i64 22) ∧ w.cell? ⟨g,10,none⟩ = some (.int .i64 ia) ∧ w.cell? ⟨g,11,none⟩ = some (.int .i64 ib) ∧ w.cell? ⟨g,12,none⟩ = some (.int .i64 ic) ∧ w.cell? ⟨g,13,none⟩ = some (.int .i64 id) ∧ w.cell? ⟨g,14,none⟩ = some (.string s5) ∧ w.cell? ⟨g,15,none⟩ = some (.string s6) ∧ w.cell? ⟨g,16,none⟩ = some (.string s7) ∧ w.cell? ⟨g,17,none⟩ = some (.slice A8 n8 c8):=⟨blk_cell hm.b 9,blk_cell hm.b 10,blk_cell hm.b 11,blk_cell hm.b 12,blk_cell hm.b 13,blk_cell hm.b 14,blk_cell hm.b 15,blk_cell hm.b 16,blk_cell hm.b 17⟩
 clear hm hbz hl
 go_enter Try.func46,Try.ntmps46
 go_wp2_with fail
 clear e9 e10 e11 e12 e13 e14 e15 e16 e17
 have HS : Aside0 (IvS w (w.alloc (Obj.cells #[.int .i64 22,.int .i64 ia,.int .i64 ib,.int .i64 ic,.int .i64 id,.string s5,.string s6,.string s7,.slice A8 n8 c8] 74)).drew base g a0 a1 a2 a3 a4 m pc (.int .i64 22) (.int .i64 ia) (.int .i64 ib) (.int .i64 ic) (.int .i64 id) (.string s5) (.string s6) (.string s7) (.slice A8 n8 c8) v v l w.heap.size #[.int .i64 22,.int .i64 ia,.int .i64 ib,.int .i64 ic,.int .i64 id,.string s5,.string s6,.string s7,.slice A8 n8 c8] 74):=⟨HS0.out.below (below_drew1 (Below.refl _ _))⟩
 have z0 : (w.alloc (Obj.cells #[.int .i64 22,.int .i64 ia,.int .i64 ib,.int .i64 ic,.int .i64 id,.string s5,.string s6,.string s7,.slice A8 n8 c8] 74)).drew.cell? ⟨w.heap.size,2,none⟩ = some (.int .i64 ib):=blk_cell HS.out.hz 2
 have z1 : (w.alloc (Obj.cells #[.int .i64 22,.int .i64 ia,.int .i64 ib,.int .i64 ic,.int .i64 id,.string s5,.string s6,.string s7,.slice A8 n8 c8] 74)).drew.cell? ⟨g,5,none⟩ = some (.string m.f0):=blk_cell HS.out.hm.b 5
 have z2 : (w.alloc (Obj.cells #[.int .i64 22,.int .i64 ia,.int .i64 ib,.int .i64 ic,.int .i64 id,.string s5,.string s6,.string s7,.slice A8 n8 c8] 74)).drew.cell? ⟨g,6,none⟩ = some (.string m.f1):=blk_cell HS.out.hm.b 6
 have z3 : (w.alloc (Obj.cells #[.int .i64 22,.int .i64 ia,.int .i64 ib,.int .i64 ic,.int .i64 id,.string s5,.string s6,.string s7,.slice A8 n8 c8] 74)).drew.cell? ⟨g,7,none⟩ = some (.string m.f2):=blk_cell HS.out.hm.b 7
 go_wp2_with fail
 refine start_ (n:=11) (S:=fun w' => w'.cell? ⟨w.heap.size,2,none⟩ = some (.int .i64 ib) ∧ w'.cell? ⟨g,5,none⟩ = some (.string m.f0) ∧ w'.cell? ⟨g,6,none⟩ = some (.string m.f1) ∧ w'.cell? ⟨g,7,none⟩ = some (.string m.f2)) (ds:=[10]) (Array.replicate 11 false) (by kernel_rfl) rfl rfl ⟨z0,z1,z2,z3⟩ (fun hHeld => ?_)
 generalize (w.alloc (Obj.cells #[.int .i64 22,.int .i64 ia,.int .i64 ib,.int .i64 ic,.int .i64 id,.string s5,.string s6,.string s7,.slice A8 n8 c8] 74)).drew = X at HS z0 z1 z2 z3 hHeld ⊢
 refine sP (i:=0) (N:=some 100) ?_
 refine sP (i:=1) (N:=some 101) ?_
 refine sP (i:=2) (N:=some 102) ?_
 refine sP (i:=3) (N:=some 103) ?_
 refine sP (i:=6) (N:=some 106) ?_
 refine sP (i:=7) (N:=some 107) ?_
 refine sT (i:=4) (N:=some 104) hHeld ?_
 refine sT (i:=8) (N:=some 108) hHeld ?_
 refine sO (i:=5) (N:=some 105) fun K hK => ?_
 refine sG Try.func15 #[.agg #[.string m.f0,.string m.f1,.string m.f2]] ?_
 refine (Q43.gen_Ret.calls m.f0 m.f1 m.f2 2 m.f0 m.f1 m.f2 0 ⟨#[]⟩ ⟨#[]⟩ ⟨#[]⟩ ⟨#[]⟩ ⟨#[]⟩ 0 ⟨#[]⟩ X rfl).mono ?_
 rintro e w1 ⟨rfl,hb⟩
 refine ⟨_,rfl,?_⟩
 have y0:=sC hb z0
 have y1:=sC hb z1
 have y2:=sC hb z2
 have y3:=sC hb z3
 have HS1:=aq (HS.out.below hb)
 clear hb
 refine hK.out _ _ ⟨y0,y1,y2,y3⟩ (fun hHeld => ?_)
 clear hK K
 refine sN ?_
 refine sO (i:=9) (N:=some 109) fun K hK => ?_
 refine sG Try.func38 #[.pointer (some ⟨g,0,none⟩),.int .i64 ib] ?_
 refine (maker_reg g a0 a1 a2 a3 a4 m pc (.int .i64 22) (.int .i64 ia) (.int .i64 ib) (.int .i64 ic) (.int .i64 id) (.string s5) (.string s6) (.string s7) (.slice A8 n8 c8) v ib w1 HS1.out.hm.b).mono ?_
 rintro e w2 ⟨rfl,hb⟩
 refine ⟨_,rfl,?_⟩
 have x0:=sC hb y0
 have x1:=sC hb y1
 have x2:=sC hb y2
 have x3:=sC hb y3
 have HS2:=aq (HS1.out.below hb)
 clear hb
 refine hK.out _ _ ⟨x0,x1,x2,x3⟩ (fun hHeld => ?_)
 clear hK K
 refine sN ?_
 refine sX (i:=10) (N:=some 110) fun K hK => ?_
 refine sG Try.func37 #[.pointer (some ⟨g,0,none⟩),.agg (List.toArray (qR 2 m 0 [])),.agg (List.toArray (qR 1 m ib [])),.string ⟨#[]⟩] ?_
 refine (maker_flows base g a0 a1 a2 a3 a4 m pc (.int .i64 22) (.int .i64 ia) (.int .i64 ib) (.int .i64 ic) (.int .i64 id) (.string s5) (.string s6) (.string s7) (.slice A8 n8 c8) v l (⟨2,m,0,z44,z46⟩ : S50) (⟨1,m,ib,z44,z46⟩ : S50) ⟨#[]⟩ w2 HS2.out.hm (by have:=HL.out;omega) HS2.out.hs).mono ?_
 rintro e w3 ⟨v3,rfl,hm3,hb3,hk3⟩
 refine ⟨_,rfl,?_⟩
 have HS3:=aq (HS2.out.put hm3 hb3 hk3)
 clear hm3 hb3 hk3
 refine hK.out _ _ ?_
 clear hK K
 refine sN ?_
 refine done_ (by kernel_rfl) ?_
 go_wp2_with fail
 exact bodyPost_end (v:=.tuple #[]) (by simp [results,Try.results46,go_sem]) rfl (by first|exact ⟨_,[(⟨2,pc,(⟨2,m,0,z44,z46⟩ : S50),(⟨1,m,ib,z44,z46⟩ : S50),⟨m,0,⟨#[]⟩⟩,z44,⟨#[]⟩,z25,noSl⟩ : CV)],rfl,HS3.out.hm,Nat.le_of_ble_eq_true rfl,(asked_cons rfl rfl (fun h => absurd (show (2 : Int) = 1 from h) (by decide)) (fun _ => ⟨rfl,by simp [usesR]⟩) asked_nil),HS3.out.hB,HS3.out.hK⟩|exact ⟨rfl,_,[(⟨2,pc,(⟨2,m,0,z44,z46⟩ : S50),(⟨1,m,ib,z44,z46⟩ : S50),⟨m,0,⟨#[]⟩⟩,z44,⟨#[]⟩,z25,noSl⟩ : CV)],HS3.out.hm,Nat.le_of_ble_eq_true rfl,(asked_cons rfl rfl (fun h => absurd (show (2 : Int) = 1 from h) (by decide)) (fun _ => ⟨rfl,by simp [usesR]⟩) asked_nil),HS3.out.hB,HS3.out.hK⟩)
theorem iv_load (base g : Nat) (a0 a1 a2 a3 a4 : Value) (m : S25) (pc : Int) (ia ib ic id : Int) (s5 s6 s7 : ByteArray) (A8 : Option Addr) (n8 c8 : Nat) (ags : List Int) (v : Value) (l : List CV) (w : World) (hm : MkOwn w base g a0 a1 a2 a3 a4 m pc (.int .i64 13) (.int .i64 ia) (.int .i64 ib) (.int .i64 ic) (.int .i64 id) (.string s5) (.string s6) (.string s7) (.slice A8 n8 c8) v l) (hl : l.length + 2 ≤ 1048576) (hbz : base ≤ w.heap.size) :
  Calls Try.prog 46 #[.pointer (some ⟨g,0,none⟩)] w fun e w' => ∃ v' ins,e = .returned (.tuple #[]) ∧ MkOwn w' base g a0 a1 a2 a3 a4 m pc (.int .i64 13) (.int .i64 ia) (.int .i64 ib) (.int .i64 ic) (.int .i64 id) (.string s5) (.string s6) (.string s7) (.slice A8 n8 c8) v' (l ++ ins) ∧ ins.length ≤ 3 ∧ Asked m pc (⟨13,ia,ib,ic,id,s5,s6,s7,ags⟩ : S74) ins true ∧ Below base w w' ∧ Kp w w' g v v':=by
 have HS0:=aq (IvS.start hm hbz #[.int .i64 13,.int .i64 ia,.int .i64 ib,.int .i64 ic,.int .i64 id,.string s5,.string s6,.string s7,.slice A8 n8 c8] 74)
 have HL:=aq hl
 obtain ⟨e9,e10,e11,e12,e13,e14,e15,e16,e17⟩ : w.cell? ⟨g,9,none⟩ = some (.int .i64 13) ∧ w.cell? ⟨g,10,none⟩ = some (.int .i64 ia) ∧ w.cell? ⟨g,11,none⟩ = some (.int .i64 ib) ∧ w.cell? ⟨g,12,none⟩ = some (.int .i64 ic) ∧ w.cell? ⟨g,13,none⟩ = some (.int .i64 id) ∧ w.cell? ⟨g,14,none⟩ = some (.string s5) ∧ w.cell? ⟨g,15,none⟩ = some (.string s6) ∧ w.cell? ⟨g,16,none⟩ = some (.string s7) ∧ w.cell? ⟨g,17,none⟩ = some (.slice A8 n8 c8):=⟨blk_cell hm.b 9,blk_cell hm.b 10,blk_cell hm.b 11,blk_cell hm.b 12,blk_cell hm.b 13,blk_cell hm.b 14,blk_cell hm.b 15,blk_cell hm.b 16,blk_cell hm.b 17⟩
 clear hm hbz hl
 go_enter Try.func46,Try.ntmps46
 go_wp2_with fail
 clear e9 e10 e11 e12 e13 e14 e15 e16 e17
 have HS : Aside0 (IvS w (w.alloc (Obj.cells #[.int .i64 13,.int .i64 ia,.int .i64 ib,.int .i64 ic,.int .i64 id,.string s5,.string s6,.string s7,.slice A8 n8 c8] 74)).drew base g a0 a1 a2 a3 a4 m pc (.int .i64 13) (.int .i64 ia) (.int .i64 ib) (.int .i64 ic) (.int .i64 id) (.string s5) (.string s6) (.string s7) (.slice A8 n8 c8) v v l w.heap.size #[.int .i64 13,.int .i64 ia,.int .i64 ib,.int .i64 ic,.int .i64 id,.string s5,.string s6,.string s7,.slice A8 n8 c8] 74):=⟨HS0.out.below (below_drew1 (Below.refl _ _))⟩
 have z0 : (w.alloc (Obj.cells #[.int .i64 13,.int .i64 ia,.int .i64 ib,.int .i64 ic,.int .i64 id,.string s5,.string s6,.string s7,.slice A8 n8 c8] 74)).drew.cell? ⟨w.heap.size,1,none⟩ = some (.int .i64 ia):=blk_cell HS.out.hz 1
 have z1 : (w.alloc (Obj.cells #[.int .i64 13,.int .i64 ia,.int .i64 ib,.int .i64 ic,.int .i64 id,.string s5,.string s6,.string s7,.slice A8 n8 c8] 74)).drew.cell? ⟨w.heap.size,2,none⟩ = some (.int .i64 ib):=blk_cell HS.out.hz 2
 go_wp2_with fail
 refine start_ (n:=11) (S:=fun w' => w'.cell? ⟨w.heap.size,1,none⟩ = some (.int .i64 ia) ∧ w'.cell? ⟨w.heap.size,2,none⟩ = some (.int .i64 ib)) (ds:=[10]) (Array.replicate 11 false) (by kernel_rfl) rfl rfl ⟨z0,z1⟩ (fun hHeld => ?_)
 generalize (w.alloc (Obj.cells #[.int .i64 13,.int .i64 ia,.int .i64 ib,.int .i64 ic,.int .i64 id,.string s5,.string s6,.string s7,.slice A8 n8 c8] 74)).drew = X at HS z0 z1 hHeld ⊢
 refine sP (i:=0) (N:=some 61) ?_
 refine sP (i:=1) (N:=some 62) ?_
 refine sP (i:=2) (N:=some 63) ?_
 refine sP (i:=5) (N:=some 66) ?_
 refine sP (i:=6) (N:=some 67) ?_
 refine sT (i:=3) (N:=some 64) hHeld ?_
 refine sT (i:=7) (N:=some 68) hHeld ?_
 refine sO (i:=4) (N:=some 65) fun K hK => ?_
 refine sG Try.func38 #[.pointer (some ⟨g,0,none⟩),.int .i64 ia] ?_
 refine (maker_reg g a0 a1 a2 a3 a4 m pc (.int .i64 13) (.int .i64 ia) (.int .i64 ib) (.int .i64 ic) (.int .i64 id) (.string s5) (.string s6) (.string s7) (.slice A8 n8 c8) v ia X HS.out.hm.b).mono ?_
 rintro e w1 ⟨rfl,hb⟩
 refine ⟨_,rfl,?_⟩
 have y0:=sC hb z0
 have y1:=sC hb z1
 have HS1:=aq (HS.out.below hb)
 clear hb
 refine hK.out _ _ ⟨y0,y1⟩ (fun hHeld => ?_)
 clear hK K
 refine sN ?_
 refine sO (i:=8) (N:=some 69) fun K hK => ?_
 refine sG Try.func38 #[.pointer (some ⟨g,0,none⟩),.int .i64 ib] ?_
 refine (maker_reg g a0 a1 a2 a3 a4 m pc (.int .i64 13) (.int .i64 ia) (.int .i64 ib) (.int .i64 ic) (.int .i64 id) (.string s5) (.string s6) (.string s7) (.slice A8 n8 c8) v ib w1 HS1.out.hm.b).mono ?_
 rintro e w2 ⟨rfl,hb⟩
 refine ⟨_,rfl,?_⟩
 have x0:=sC hb y0
 have x1:=sC hb y1
 have HS2:=aq (HS1.out.below hb)
 clear hb
 refine hK.out _ _ ⟨x0,x1⟩ (fun hHeld => ?_)
 clear hK K
 refine sN ?_
 refine sP (i:=9) (N:=some 70) ?_
 refine sX (i:=10) (N:=some 71) fun K hK => ?_
 refine sG Try.func61 #[.pointer (some ⟨g,0,none⟩),.agg (List.toArray ((kK 5 0 (qR 1 m ia (qR 1 m ib (sZ (fZ (kS ⟨#[]⟩ (mZ [.slice none 0 0])))))))))] ?_
 refine (put_plain base g a0 a1 a2 a3 a4 m pc (.int .i64 13) (.int .i64 ia) (.int .i64 ib) (.int .i64 ic) (.int .i64 id) (.string s5) (.string s6) (.string s7) (.slice A8 n8 c8) v l (⟨5,0,(⟨1,m,ia,z44,z46⟩ : S50),(⟨1,m,ib,z44,z46⟩ : S50),⟨z25,0,⟨#[]⟩⟩,z44,⟨#[]⟩,z25,noSl⟩ : CV) w2 HS2.out.hm (show (5 : Int) ≠ 1 by decide) (by have:=HL.out;omega) HS2.out.hs).mono ?_
 rintro e w3 ⟨v3,rfl,hm3,hb3,hk3⟩
 refine ⟨_,rfl,?_⟩
 have HS3:=aq (HS2.out.put hm3 hb3 hk3)
 clear hm3 hb3 hk3
 refine hK.out _ _ ?_
 clear hK K
 refine sN ?_
 refine done_ (by kernel_rfl) ?_
 go_wp2_with fail
 exact bodyPost_end (v:=.tuple #[]) (by simp [results,Try.results46,go_sem]) rfl (by first|exact ⟨_,[(⟨5,pc,(⟨1,m,ia,z44,z46⟩ : S50),(⟨1,m,ib,z44,z46⟩ : S50),⟨m,0,⟨#[]⟩⟩,z44,⟨#[]⟩,z25,noSl⟩ : CV)],rfl,HS3.out.hm,Nat.le_of_ble_eq_true rfl,(asked_set rfl rfl rfl (by simp [usesR]) (fun _ => ⟨rfl,by simp [usesR]⟩) asked_nil),HS3.out.hB,HS3.out.hK⟩|exact ⟨rfl,_,[(⟨5,pc,(⟨1,m,ia,z44,z46⟩ : S50),(⟨1,m,ib,z44,z46⟩ : S50),⟨m,0,⟨#[]⟩⟩,z44,⟨#[]⟩,z25,noSl⟩ : CV)],HS3.out.hm,Nat.le_of_ble_eq_true rfl,(asked_set rfl rfl rfl (by simp [usesR]) (fun _ => ⟨rfl,by simp [usesR]⟩) asked_nil),HS3.out.hB,HS3.out.hK⟩)
theorem iv_store (base g : Nat) (a0 a1 a2 a3 a4 : Value) (m : S25) (pc : Int) (ia ib ic id : Int) (s5 s6 s7 : ByteArray) (A8 : Option Addr) (n8 c8 : Nat) (ags : List Int) (v : Value) (l : List CV) (w : World) (hm : MkOwn w base g a0 a1 a2 a3 a4 m pc (.int .i64 14) (.int .i64 ia) (.int .i64 ib) (.int .i64 ic) (.int .i64 id) (.string s5) (.string s6) (.string s7) (.slice A8 n8 c8) v l) (hl : l.length + 2 ≤ 1048576) (hbz : base ≤ w.heap.size) :
  Calls Try.prog 46 #[.pointer (some ⟨g,0,none⟩)] w fun e w' => ∃ v' ins,e = .returned (.tuple #[]) ∧ MkOwn w' base g a0 a1 a2 a3 a4 m pc (.int .i64 14) (.int .i64 ia) (.int .i64 ib) (.int .i64 ic) (.int .i64 id) (.string s5) (.string s6) (.string s7) (.slice A8 n8 c8) v' (l ++ ins) ∧ ins.length ≤ 3 ∧ Asked m pc (⟨14,ia,ib,ic,id,s5,s6,s7,ags⟩ : S74) ins true ∧ Below base w w' ∧ Kp w w' g v v':=by
 have HS0:=aq (IvS.start hm hbz #[.int .i64 14,.int .i64 ia,.int .i64 ib,.int .i64 ic,.int .i64 id,.string s5,.string s6,.string s7,.slice A8 n8 c8] 74)
 have HL:=aq hl
 obtain ⟨e9,e10,e11,e12,e13,e14,e15,e16,e17⟩ : w.cell? ⟨g,9,none⟩ = some (.int .i64 14) ∧ w.cell? ⟨g,10,none⟩ = some (.int .i64 ia) ∧ w.cell? ⟨g,11,none⟩ = some (.int .i64 ib) ∧ w.cell? ⟨g,12,none⟩ = some (.int .i64 ic) ∧ w.cell? ⟨g,13,none⟩ = some (.int .i64 id) ∧ w.cell? ⟨g,14,none⟩ = some (.string s5) ∧ w.cell? ⟨g,15,none⟩ = some (.string s6) ∧ w.cell? ⟨g,16,none⟩ = some (.string s7) ∧ w.cell? ⟨g,17,none⟩ = some (.slice A8 n8 c8):=⟨blk_cell hm.b 9,blk_cell hm.b 10,blk_cell hm.b 11,blk_cell hm.b 12,blk_cell hm.b 13,blk_cell hm.b 14,blk_cell hm.b 15,blk_cell hm.b 16,blk_cell hm.b 17⟩
 clear hm hbz hl
 go_enter Try.func46,Try.ntmps46
 go_wp2_with fail
 clear e9 e10 e11 e12 e13 e14 e15 e16 e17
 have HS : Aside0 (IvS w (w.alloc (Obj.cells #[.int .i64 14,.int .i64 ia,.int .i64 ib,.int .i64 ic,.int .i64 id,.string s5,.string s6,.string s7,.slice A8 n8 c8] 74)).drew base g a0 a1 a2 a3 a4 m pc (.int .i64 14) (.int .i64 ia) (.int .i64 ib) (.int .i64 ic) (.int .i64 id) (.string s5) (.string s6) (.string s7) (.slice A8 n8 c8) v v l w.heap.size #[.int .i64 14,.int .i64 ia,.int .i64 ib,.int .i64 ic,.int .i64 id,.string s5,.string s6,.string s7,.slice A8 n8 c8] 74):=⟨HS0.out.below (below_drew1 (Below.refl _ _))⟩
 have z0 : (w.alloc (Obj.cells #[.int .i64 14,.int .i64 ia,.int .i64 ib,.int .i64 ic,.int .i64 id,.string s5,.string s6,.string s7,.slice A8 n8 c8] 74)).drew.cell? ⟨w.heap.size,1,none⟩ = some (.int .i64 ia):=blk_cell HS.out.hz 1
 have z1 : (w.alloc (Obj.cells #[.int .i64 14,.int .i64 ia,.int .i64 ib,.int .i64 ic,.int .i64 id,.string s5,.string s6,.string s7,.slice A8 n8 c8] 74)).drew.cell? ⟨w.heap.size,3,none⟩ = some (.int .i64 ic):=blk_cell HS.out.hz 3
 go_wp2_with fail
 refine start_ (n:=11) (S:=fun w' => w'.cell? ⟨w.heap.size,1,none⟩ = some (.int .i64 ia) ∧ w'.cell? ⟨w.heap.size,3,none⟩ = some (.int .i64 ic)) (ds:=[10]) (Array.replicate 11 false) (by kernel_rfl) rfl rfl ⟨z0,z1⟩ (fun hHeld => ?_)
 generalize (w.alloc (Obj.cells #[.int .i64 14,.int .i64 ia,.int .i64 ib,.int .i64 ic,.int .i64 id,.string s5,.string s6,.string s7,.slice A8 n8 c8] 74)).drew = X at HS z0 z1 hHeld ⊢
 refine sP (i:=0) (N:=some 74) ?_
 refine sP (i:=1) (N:=some 75) ?_
 refine sP (i:=2) (N:=some 76) ?_
 refine sP (i:=5) (N:=some 79) ?_
 refine sP (i:=6) (N:=some 80) ?_
 refine sT (i:=3) (N:=some 77) hHeld ?_
 refine sT (i:=7) (N:=some 81) hHeld ?_
 refine sO (i:=4) (N:=some 78) fun K hK => ?_
 refine sG Try.func38 #[.pointer (some ⟨g,0,none⟩),.int .i64 ia] ?_
 refine (maker_reg g a0 a1 a2 a3 a4 m pc (.int .i64 14) (.int .i64 ia) (.int .i64 ib) (.int .i64 ic) (.int .i64 id) (.string s5) (.string s6) (.string s7) (.slice A8 n8 c8) v ia X HS.out.hm.b).mono ?_
 rintro e w1 ⟨rfl,hb⟩
 refine ⟨_,rfl,?_⟩
 have y0:=sC hb z0
 have y1:=sC hb z1
 have HS1:=aq (HS.out.below hb)
 clear hb
 refine hK.out _ _ ⟨y0,y1⟩ (fun hHeld => ?_)
 clear hK K
 refine sN ?_
 refine sO (i:=8) (N:=some 82) fun K hK => ?_
 refine sG Try.func38 #[.pointer (some ⟨g,0,none⟩),.int .i64 ic] ?_
 refine (maker_reg g a0 a1 a2 a3 a4 m pc (.int .i64 14) (.int .i64 ia) (.int .i64 ib) (.int .i64 ic) (.int .i64 id) (.string s5) (.string s6) (.string s7) (.slice A8 n8 c8) v ic w1 HS1.out.hm.b).mono ?_
 rintro e w2 ⟨rfl,hb⟩
 refine ⟨_,rfl,?_⟩
 have x0:=sC hb y0
 have x1:=sC hb y1
 have HS2:=aq (HS1.out.below hb)
 clear hb
 refine hK.out _ _ ⟨x0,x1⟩ (fun hHeld => ?_)
 clear hK K
 refine sN ?_
 refine sP (i:=9) (N:=some 83) ?_
 refine sX (i:=10) (N:=some 84) fun K hK => ?_
 refine sG Try.func61 #[.pointer (some ⟨g,0,none⟩),.agg (List.toArray ((kK 6 0 (qR 1 m ia (qR 1 m ic (sZ (fZ (kS ⟨#[]⟩ (mZ [.slice none 0 0])))))))))] ?_
 refine (put_plain base g a0 a1 a2 a3 a4 m pc (.int .i64 14) (.int .i64 ia) (.int .i64 ib) (.int .i64 ic) (.int .i64 id) (.string s5) (.string s6) (.string s7) (.slice A8 n8 c8) v l (⟨6,0,(⟨1,m,ia,z44,z46⟩ : S50),(⟨1,m,ic,z44,z46⟩ : S50),⟨z25,0,⟨#[]⟩⟩,z44,⟨#[]⟩,z25,noSl⟩ : CV) w2 HS2.out.hm (show (6 : Int) ≠ 1 by decide) (by have:=HL.out;omega) HS2.out.hs).mono ?_
 rintro e w3 ⟨v3,rfl,hm3,hb3,hk3⟩
 refine ⟨_,rfl,?_⟩
 have HS3:=aq (HS2.out.put hm3 hb3 hk3)
 clear hm3 hb3 hk3
 refine hK.out _ _ ?_
 clear hK K
 refine sN ?_
 refine done_ (by kernel_rfl) ?_
 go_wp2_with fail
 exact bodyPost_end (v:=.tuple #[]) (by simp [results,Try.results46,go_sem]) rfl (by first|exact ⟨_,[(⟨6,pc,(⟨1,m,ia,z44,z46⟩ : S50),(⟨1,m,ic,z44,z46⟩ : S50),⟨m,0,⟨#[]⟩⟩,z44,⟨#[]⟩,z25,noSl⟩ : CV)],rfl,HS3.out.hm,Nat.le_of_ble_eq_true rfl,(asked_set rfl rfl rfl (by simp [usesR]) (fun _ => ⟨rfl,by simp [usesR]⟩) asked_nil),HS3.out.hB,HS3.out.hK⟩|exact ⟨rfl,_,[(⟨6,pc,(⟨1,m,ia,z44,z46⟩ : S50),(⟨1,m,ic,z44,z46⟩ : S50),⟨m,0,⟨#[]⟩⟩,z44,⟨#[]⟩,z25,noSl⟩ : CV)],HS3.out.hm,Nat.le_of_ble_eq_true rfl,(asked_set rfl rfl rfl (by simp [usesR]) (fun _ => ⟨rfl,by simp [usesR]⟩) asked_nil),HS3.out.hB,HS3.out.hK⟩)
theorem iv_init (base g : Nat) (a0 a1 a2 a3 a4 : Value) (m : S25) (pc : Int) (ia ib ic id : Int) (s5 s6 s7 : ByteArray) (A8 : Option Addr) (n8 c8 : Nat) (ags : List Int) (v : Value) (l : List CV) (w : World) (hm : MkOwn w base g a0 a1 a2 a3 a4 m pc (.int .i64 32) (.int .i64 ia) (.int .i64 ib) (.int .i64 ic) (.int .i64 id) (.string s5) (.string s6) (.string s7) (.slice A8 n8 c8) v l) (hl : l.length + 2 ≤ 1048576) (hbz : base ≤ w.heap.size) :
  Calls Try.prog 46 #[.pointer (some ⟨g,0,none⟩)] w fun e w' => ∃ v' ins,e = .returned (.tuple #[]) ∧ MkOwn w' base g a0 a1 a2 a3 a4 m pc (.int .i64 32) (.int .i64 ia) (.int .i64 ib) (.int .i64 ic) (.int .i64 id) (.string s5) (.string s6) (.string s7) (.slice A8 n8 c8) v' (l ++ ins) ∧ ins.length ≤ 3 ∧ Asked m pc (⟨32,ia,ib,ic,id,s5,s6,s7,ags⟩ : S74) ins false ∧ Below base w w' ∧ Kp w w' g v v':=by
 have HS0:=aq (IvS.start hm hbz #[.int .i64 32,.int .i64 ia,.int .i64 ib,.int .i64 ic,.int .i64 id,.string s5,.string s6,.string s7,.slice A8 n8 c8] 74)
 have HL:=aq hl
 obtain ⟨e9,e10,e11,e12,e13,e14,e15,e16,e17⟩ : w.cell? ⟨g,9,none⟩ = some (.int .i64 32) ∧ w.cell? ⟨g,10,none⟩ = some (.int .i64 ia) ∧ w.cell? ⟨g,11,none⟩ = some (.int .i64 ib) ∧ w.cell? ⟨g,12,none⟩ = some (.int .i64 ic) ∧ w.cell? ⟨g,13,none⟩ = some (.int .i64 id) ∧ w.cell? ⟨g,14,none⟩ = some (.string s5) ∧ w.cell? ⟨g,15,none⟩ = some (.string s6) ∧ w.cell? ⟨g,16,none⟩ = some (.string s7) ∧ w.cell? ⟨g,17,none⟩ = some (.slice A8 n8 c8):=⟨blk_cell hm.b 9,blk_cell hm.b 10,blk_cell hm.b 11,blk_cell hm.b 12,blk_cell hm.b 13,blk_cell hm.b 14,blk_cell hm.b 15,blk_cell hm.b 16,blk_cell hm.b 17⟩
 clear hm hbz hl
 go_enter Try.func46,Try.ntmps46
 go_wp2_with fail
 clear e9 e10 e11 e12 e13 e14 e15 e16 e17
 have z5 : (w.alloc (Obj.cells #[.int .i64 32,.int .i64 ia,.int .i64 ib,.int .i64 ic,.int .i64 id,.string s5,.string s6,.string s7,.slice A8 n8 c8] 74)).cell? ⟨w.heap.size,5,none⟩ = some (.string s5):=blk_cell HS0.out.hz 5
 go_wp2_with fail
 refine (maker_begins base g a0 a1 a2 a3 a4 m pc (.int .i64 32) (.int .i64 ia) (.int .i64 ib) (.int .i64 ic) (.int .i64 id) (.string s5) (.string s6) (.string s7) (.slice A8 n8 c8) v l s5 _ HS0.out.hm (by have:=HL.out;omega) HS0.out.hs).mono ?_
 rintro e w1 ⟨v1,rfl,hm,hb,hk⟩
 have HS1:=aq (HS0.out.put hm hb hk)
 clear hm hb hk
 go_wp2_with fail
 exact bodyPost_end (v:=.tuple #[]) (by simp [results,Try.results46,go_sem]) rfl (by first|exact ⟨_,[(⟨7,pc,z50,z50,⟨m,0,⟨#[]⟩⟩,z44,s5,z25,noSl⟩ : CV)],rfl,HS1.out.hm,Nat.le_of_ble_eq_true rfl,(asked_cons rfl rfl (fun h => absurd (show (0 : Int) = 1 from h) (by decide)) (fun h => absurd (show (0 : Int) = 1 from h) (by decide)) asked_nil),HS1.out.hB,HS1.out.hK⟩|exact ⟨rfl,_,[(⟨7,pc,z50,z50,⟨m,0,⟨#[]⟩⟩,z44,s5,z25,noSl⟩ : CV)],HS1.out.hm,Nat.le_of_ble_eq_true rfl,(asked_cons rfl rfl (fun h => absurd (show (0 : Int) = 1 from h) (by decide)) (fun h => absurd (show (0 : Int) = 1 from h) (by decide)) asked_nil),HS1.out.hB,HS1.out.hK⟩)
theorem iv_new (base g : Nat) (a0 a1 a2 a3 a4 : Value) (m : S25) (pc : Int) (ia ib ic id : Int) (s5 s6 s7 : ByteArray) (A8 : Option Addr) (n8 c8 : Nat) (ags : List Int) (v : Value) (l : List CV) (w : World) (hm : MkOwn w base g a0 a1 a2 a3 a4 m pc (.int .i64 9) (.int .i64 ia) (.int .i64 ib) (.int .i64 ic) (.int .i64 id) (.string s5) (.string s6) (.string s7) (.slice A8 n8 c8) v l) (hl : l.length + 2 ≤ 1048576) (hbz : base ≤ w.heap.size) :
  Calls Try.prog 46 #[.pointer (some ⟨g,0,none⟩)] w fun e w' => ∃ v' ins,e = .returned (.tuple #[]) ∧ MkOwn w' base g a0 a1 a2 a3 a4 m pc (.int .i64 9) (.int .i64 ia) (.int .i64 ib) (.int .i64 ic) (.int .i64 id) (.string s5) (.string s6) (.string s7) (.slice A8 n8 c8) v' (l ++ ins) ∧ ins.length ≤ 3 ∧ Asked m pc (⟨9,ia,ib,ic,id,s5,s6,s7,ags⟩ : S74) ins true ∧ Below base w w' ∧ Kp w w' g v v':=by
 have HS0:=aq (IvS.start hm hbz #[.int .i64 9,.int .i64 ia,.int .i64 ib,.int .i64 ic,.int .i64 id,.string s5,.string s6,.string s7,.slice A8 n8 c8] 74)
 have HL:=aq hl
 obtain ⟨e9,e10,e11,e12,e13,e14,e15,e16,e17⟩ : w.cell? ⟨g,9,none⟩ = some (.int .i64 9) ∧ w.cell? ⟨g,10,none⟩ = some (.int .i64 ia) ∧ w.cell? ⟨g,11,none⟩ = some (.int .i64 ib) ∧ w.cell? ⟨g,12,none⟩ = some (.int .i64 ic) ∧ w.cell? ⟨g,13,none⟩ = some (.int .i64 id) ∧ w.cell? ⟨g,14,none⟩ = some (.string s5) ∧ w.cell? ⟨g,15,none⟩ = some (.string s6) ∧ w.cell? ⟨g,16,none⟩ = some (.string s7) ∧ w.cell? ⟨g,17,none⟩ = some (.slice A8 n8 c8):=⟨blk_cell hm.b 9,blk_cell hm.b 10,blk_cell hm.b 11,blk_cell hm.b 12,blk_cell hm.b 13,blk_cell hm.b 14,blk_cell hm.b 15,blk_cell hm.b 16,blk_cell hm.b 17⟩
 clear hm hbz hl
 go_enter Try.func46,Try.ntmps46
 go_wp2_with fail
 clear e9 e10 e11 e12 e13 e14 e15 e16 e17
 have z5 : (w.alloc (Obj.cells #[.int .i64 9,.int .i64 ia,.int .i64 ib,.int .i64 ic,.int .i64 id,.string s5,.string s6,.string s7,.slice A8 n8 c8] 74)).cell? ⟨w.heap.size,5,none⟩ = some (.string s5):=blk_cell HS0.out.hz 5
 go_wp2_with fail
 refine (maker_begins base g a0 a1 a2 a3 a4 m pc (.int .i64 9) (.int .i64 ia) (.int .i64 ib) (.int .i64 ic) (.int .i64 id) (.string s5) (.string s6) (.string s7) (.slice A8 n8 c8) v l s5 _ HS0.out.hm (by have:=HL.out;omega) HS0.out.hs).mono ?_
 rintro e w1 ⟨v1,rfl,hm,hb,hk⟩
 have HS1:=aq (HS0.out.put hm hb hk)
 clear hm hb hk
 clear z5
 have z5 : w1.cell? ⟨w.heap.size,5,none⟩ = some (.string s5):=blk_cell HS1.out.hz 5
 go_wp2_with fail
 refine (maker_fresh base g a0 a1 a2 a3 a4 m pc (.int .i64 9) (.int .i64 ia) (.int .i64 ib) (.int .i64 ic) (.int .i64 id) (.string s5) (.string s6) (.string s7) (.slice A8 n8 c8) v1 (l ++ [(⟨7,pc,z50,z50,⟨m,0,⟨#[]⟩⟩,z44,s5,z25,noSl⟩ : CV)]) ia s5 w1 HS1.out.hm (by have:=HL.out;rw [List.length_append];show l.length + 1 ≤ _;omega) HS1.out.hs).mono ?_
 rintro e w2 ⟨v2,rfl,hm,hb,hk⟩
 have HS2:=aq (HS1.out.put hm hb hk)
 clear hm hb hk
 rw [List.append_assoc] at HS2
 go_wp2_with fail
 exact bodyPost_end (v:=.tuple #[]) (by simp [results,Try.results46,go_sem]) rfl (by first|exact ⟨_,[(⟨7,pc,z50,z50,⟨m,0,⟨#[]⟩⟩,z44,s5,z25,noSl⟩ : CV),(⟨1,pc,(⟨1,m,ia,z44,z46⟩ : S50),z50,⟨m,pc,s5⟩,z44,⟨#[]⟩,z25,noSl⟩ : CV)],rfl,HS2.out.hm,Nat.le_of_ble_eq_true rfl,(asked_cons rfl rfl (fun h => absurd (show (0 : Int) = 1 from h) (by decide)) (fun h => absurd (show (0 : Int) = 1 from h) (by decide)) (asked_set rfl rfl rfl (by simp [usesR]) (fun h => absurd (show (0 : Int) = 1 from h) (by decide)) asked_nil)),HS2.out.hB,HS2.out.hK⟩|exact ⟨rfl,_,[(⟨7,pc,z50,z50,⟨m,0,⟨#[]⟩⟩,z44,s5,z25,noSl⟩ : CV),(⟨1,pc,(⟨1,m,ia,z44,z46⟩ : S50),z50,⟨m,pc,s5⟩,z44,⟨#[]⟩,z25,noSl⟩ : CV)],HS2.out.hm,Nat.le_of_ble_eq_true rfl,(asked_cons rfl rfl (fun h => absurd (show (0 : Int) = 1 from h) (by decide)) (fun h => absurd (show (0 : Int) = 1 from h) (by decide)) (asked_set rfl rfl rfl (by simp [usesR]) (fun h => absurd (show (0 : Int) = 1 from h) (by decide)) asked_nil)),HS2.out.hB,HS2.out.hK⟩)
theorem iv_newints (base g : Nat) (a0 a1 a2 a3 a4 : Value) (m : S25) (pc : Int) (ia ib ic id : Int) (s5 s6 s7 : ByteArray) (A8 : Option Addr) (n8 c8 : Nat) (ags : List Int) (v : Value) (l : List CV) (w : World) (hm : MkOwn w base g a0 a1 a2 a3 a4 m pc (.int .i64 10) (.int .i64 ia) (.int .i64 ib) (.int .i64 ic) (.int .i64 id) (.string s5) (.string s6) (.string s7) (.slice A8 n8 c8) v l) (hl : l.length + 2 ≤ 1048576) (hbz : base ≤ w.heap.size) :
  Calls Try.prog 46 #[.pointer (some ⟨g,0,none⟩)] w fun e w' => ∃ v' ins,e = .returned (.tuple #[]) ∧ MkOwn w' base g a0 a1 a2 a3 a4 m pc (.int .i64 10) (.int .i64 ia) (.int .i64 ib) (.int .i64 ic) (.int .i64 id) (.string s5) (.string s6) (.string s7) (.slice A8 n8 c8) v' (l ++ ins) ∧ ins.length ≤ 3 ∧ Asked m pc (⟨10,ia,ib,ic,id,s5,s6,s7,ags⟩ : S74) ins true ∧ Below base w w' ∧ Kp w w' g v v':=by
 have HS0:=aq (IvS.start hm hbz #[.int .i64 10,.int .i64 ia,.int .i64 ib,.int .i64 ic,.int .i64 id,.string s5,.string s6,.string s7,.slice A8 n8 c8] 74)
 have HL:=aq hl
 obtain ⟨e9,e10,e11,e12,e13,e14,e15,e16,e17⟩ : w.cell? ⟨g,9,none⟩ = some (.int .i64 10) ∧ w.cell? ⟨g,10,none⟩ = some (.int .i64 ia) ∧ w.cell? ⟨g,11,none⟩ = some (.int .i64 ib) ∧ w.cell? ⟨g,12,none⟩ = some (.int .i64 ic) ∧ w.cell? ⟨g,13,none⟩ = some (.int .i64 id) ∧ w.cell? ⟨g,14,none⟩ = some (.string s5) ∧ w.cell? ⟨g,15,none⟩ = some (.string s6) ∧ w.cell? ⟨g,16,none⟩ = some (.string s7) ∧ w.cell? ⟨g,17,none⟩ = some (.slice A8 n8 c8):=⟨blk_cell hm.b 9,blk_cell hm.b 10,blk_cell hm.b 11,blk_cell hm.b 12,blk_cell hm.b 13,blk_cell hm.b 14,blk_cell hm.b 15,blk_cell hm.b 16,blk_cell hm.b 17⟩
 clear hm hbz hl
 go_enter Try.func46,Try.ntmps46
 go_wp2_with fail
 clear e9 e10 e11 e12 e13 e14 e15 e16 e17
 go_wp2_with fail
 refine (kind_text 4 ⟨#[]⟩ _ (by decide)).mono ?_
 rintro e w1 ⟨rfl,hb⟩
 have HS1:=aq (HS0.out.below hb)
 clear hb
 obtain ⟨tx,htx⟩ : ∃ tx,lb (textT classL (4,bl ⟨#[]⟩)) = tx:=⟨_,rfl⟩
 rw [htx]
 clear htx
 go_wp2_with fail
 refine (maker_fresh base g a0 a1 a2 a3 a4 m pc (.int .i64 10) (.int .i64 ia) (.int .i64 ib) (.int .i64 ic) (.int .i64 id) (.string s5) (.string s6) (.string s7) (.slice A8 n8 c8) v l ia tx w1 HS1.out.hm (by have:=HL.out;omega) HS1.out.hs).mono ?_
 rintro e w2 ⟨v2,rfl,hm,hb,hk⟩
 have HS2:=aq (HS1.out.put hm hb hk)
 clear hm hb hk
 go_wp2_with fail
 exact bodyPost_end (v:=.tuple #[]) (by simp [results,Try.results46,go_sem]) rfl (by first|exact ⟨_,[(⟨1,pc,(⟨1,m,ia,z44,z46⟩ : S50),z50,⟨m,pc,tx⟩,z44,⟨#[]⟩,z25,noSl⟩ : CV)],rfl,HS2.out.hm,Nat.le_of_ble_eq_true rfl,(asked_set rfl rfl rfl (by simp [usesR]) (fun h => absurd (show (0 : Int) = 1 from h) (by decide)) asked_nil),HS2.out.hB,HS2.out.hK⟩|exact ⟨rfl,_,[(⟨1,pc,(⟨1,m,ia,z44,z46⟩ : S50),z50,⟨m,pc,tx⟩,z44,⟨#[]⟩,z25,noSl⟩ : CV)],HS2.out.hm,Nat.le_of_ble_eq_true rfl,(asked_set rfl rfl rfl (by simp [usesR]) (fun h => absurd (show (0 : Int) = 1 from h) (by decide)) asked_nil),HS2.out.hB,HS2.out.hK⟩)
theorem iv_newrefs (base g : Nat) (a0 a1 a2 a3 a4 : Value) (m : S25) (pc : Int) (ia ib ic id : Int) (s5 s6 s7 : ByteArray) (A8 : Option Addr) (n8 c8 : Nat) (ags : List Int) (v : Value) (l : List CV) (w : World) (hs5 : s5.size ≤ 4611686018427387903) (hm : MkOwn w base g a0 a1 a2 a3 a4 m pc (.int .i64 11) (.int .i64 ia) (.int .i64 ib) (.int .i64 ic) (.int .i64 id) (.string s5) (.string s6) (.string s7) (.slice A8 n8 c8) v l) (hl : l.length + 2 ≤ 1048576) (hbz : base ≤ w.heap.size) :
  Calls Try.prog 46 #[.pointer (some ⟨g,0,none⟩)] w fun e w' => ∃ v' ins,e = .returned (.tuple #[]) ∧ MkOwn w' base g a0 a1 a2 a3 a4 m pc (.int .i64 11) (.int .i64 ia) (.int .i64 ib) (.int .i64 ic) (.int .i64 id) (.string s5) (.string s6) (.string s7) (.slice A8 n8 c8) v' (l ++ ins) ∧ ins.length ≤ 3 ∧ Asked m pc (⟨11,ia,ib,ic,id,s5,s6,s7,ags⟩ : S74) ins true ∧ Below base w w' ∧ Kp w w' g v v':=by
 have HS0:=aq (IvS.start hm hbz #[.int .i64 11,.int .i64 ia,.int .i64 ib,.int .i64 ic,.int .i64 id,.string s5,.string s6,.string s7,.slice A8 n8 c8] 74)
 have HL:=aq hl
 obtain ⟨e9,e10,e11,e12,e13,e14,e15,e16,e17⟩ : w.cell? ⟨g,9,none⟩ = some (.int .i64 11) ∧ w.cell? ⟨g,10,none⟩ = some (.int .i64 ia) ∧ w.cell? ⟨g,11,none⟩ = some (.int .i64 ib) ∧ w.cell? ⟨g,12,none⟩ = some (.int .i64 ic) ∧ w.cell? ⟨g,13,none⟩ = some (.int .i64 id) ∧ w.cell? ⟨g,14,none⟩ = some (.string s5) ∧ w.cell? ⟨g,15,none⟩ = some (.string s6) ∧ w.cell? ⟨g,16,none⟩ = some (.string s7) ∧ w.cell? ⟨g,17,none⟩ = some (.slice A8 n8 c8):=⟨blk_cell hm.b 9,blk_cell hm.b 10,blk_cell hm.b 11,blk_cell hm.b 12,blk_cell hm.b 13,blk_cell hm.b 14,blk_cell hm.b 15,blk_cell hm.b 16,blk_cell hm.b 17⟩
 clear hm hbz hl
 go_enter Try.func46,Try.ntmps46
 go_wp2_with fail
 clear e9 e10 e11 e12 e13 e14 e15 e16 e17
 have z5 : (w.alloc (Obj.cells #[.int .i64 11,.int .i64 ia,.int .i64 ib,.int .i64 ic,.int .i64 id,.string s5,.string s6,.string s7,.slice A8 n8 c8] 74)).cell? ⟨w.heap.size,5,none⟩ = some (.string s5):=blk_cell HS0.out.hz 5
 go_wp2_with fail
 refine (kind_text 5 s5 _ hs5).mono ?_
 rintro e w1 ⟨rfl,hb⟩
 have HS1:=aq (HS0.out.below hb)
 clear hb
 obtain ⟨tx,htx⟩ : ∃ tx,lb (textT classL (5,bl s5)) = tx:=⟨_,rfl⟩
 rw [htx]
 clear htx
 go_wp2_with fail
 refine (maker_fresh base g a0 a1 a2 a3 a4 m pc (.int .i64 11) (.int .i64 ia) (.int .i64 ib) (.int .i64 ic) (.int .i64 id) (.string s5) (.string s6) (.string s7) (.slice A8 n8 c8) v l ia tx w1 HS1.out.hm (by have:=HL.out;omega) HS1.out.hs).mono ?_
 rintro e w2 ⟨v2,rfl,hm,hb,hk⟩
 have HS2:=aq (HS1.out.put hm hb hk)
 clear hm hb hk
 go_wp2_with fail
 exact bodyPost_end (v:=.tuple #[]) (by simp [results,Try.results46,go_sem]) rfl (by first|exact ⟨_,[(⟨1,pc,(⟨1,m,ia,z44,z46⟩ : S50),z50,⟨m,pc,tx⟩,z44,⟨#[]⟩,z25,noSl⟩ : CV)],rfl,HS2.out.hm,Nat.le_of_ble_eq_true rfl,(asked_set rfl rfl rfl (by simp [usesR]) (fun h => absurd (show (0 : Int) = 1 from h) (by decide)) asked_nil),HS2.out.hB,HS2.out.hK⟩|exact ⟨rfl,_,[(⟨1,pc,(⟨1,m,ia,z44,z46⟩ : S50),z50,⟨m,pc,tx⟩,z44,⟨#[]⟩,z25,noSl⟩ : CV)],HS2.out.hm,Nat.le_of_ble_eq_true rfl,(asked_set rfl rfl rfl (by simp [usesR]) (fun h => absurd (show (0 : Int) = 1 from h) (by decide)) asked_nil),HS2.out.hB,HS2.out.hK⟩)
theorem iv_make (base g : Nat) (a0 a1 a2 a3 a4 : Value) (m : S25) (pc : Int) (ia ib ic id : Int) (s5 s6 s7 : ByteArray) (A8 : Option Addr) (n8 c8 : Nat) (ags : List Int) (v : Value) (l : List CV) (w : World) (hm : MkOwn w base g a0 a1 a2 a3 a4 m pc (.int .i64 28) (.int .i64 ia) (.int .i64 ib) (.int .i64 ic) (.int .i64 id) (.string s5) (.string s6) (.string s7) (.slice A8 n8 c8) v l) (hl : l.length + 2 ≤ 1048576) (hbz : base ≤ w.heap.size) :
  Calls Try.prog 46 #[.pointer (some ⟨g,0,none⟩)] w fun e w' => ∃ v' ins,e = .returned (.tuple #[]) ∧ MkOwn w' base g a0 a1 a2 a3 a4 m pc (.int .i64 28) (.int .i64 ia) (.int .i64 ib) (.int .i64 ic) (.int .i64 id) (.string s5) (.string s6) (.string s7) (.slice A8 n8 c8) v' (l ++ ins) ∧ ins.length ≤ 3 ∧ Asked m pc (⟨28,ia,ib,ic,id,s5,s6,s7,ags⟩ : S74) ins true ∧ Below base w w' ∧ Kp w w' g v v':=by
 have HS0:=aq (IvS.start hm hbz #[.int .i64 28,.int .i64 ia,.int .i64 ib,.int .i64 ic,.int .i64 id,.string s5,.string s6,.string s7,.slice A8 n8 c8] 74)
 have HL:=aq hl
 obtain ⟨e9,e10,e11,e12,e13,e14,e15,e16,e17⟩ : w.cell? ⟨g,9,none⟩ = some (.int .i64 28) ∧ w.cell? ⟨g,10,none⟩ = some (.int .i64 ia) ∧ w.cell? ⟨g,11,none⟩ = some (.int .i64 ib) ∧ w.cell? ⟨g,12,none⟩ = some (.int .i64 ic) ∧ w.cell? ⟨g,13,none⟩ = some (.int .i64 id) ∧ w.cell? ⟨g,14,none⟩ = some (.string s5) ∧ w.cell? ⟨g,15,none⟩ = some (.string s6) ∧ w.cell? ⟨g,16,none⟩ = some (.string s7) ∧ w.cell? ⟨g,17,none⟩ = some (.slice A8 n8 c8):=⟨blk_cell hm.b 9,blk_cell hm.b 10,blk_cell hm.b 11,blk_cell hm.b 12,blk_cell hm.b 13,blk_cell hm.b 14,blk_cell hm.b 15,blk_cell hm.b 16,blk_cell hm.b 17⟩
 clear hm hbz hl
 go_enter Try.func46,Try.ntmps46
 go_wp2_with fail
 clear e9 e10 e11 e12 e13 e14 e15 e16 e17
 have z1 : (w.alloc (Obj.cells #[.int .i64 28,.int .i64 ia,.int .i64 ib,.int .i64 ic,.int .i64 id,.string s5,.string s6,.string s7,.slice A8 n8 c8] 74)).cell? ⟨w.heap.size,1,none⟩ = some (.int .i64 ia):=blk_cell HS0.out.hz 1
 go_wp2_with fail
 refine (maker_reg g a0 a1 a2 a3 a4 m pc (.int .i64 28) (.int .i64 ia) (.int .i64 ib) (.int .i64 ic) (.int .i64 id) (.string s5) (.string s6) (.string s7) (.slice A8 n8 c8) v ia _ HS0.out.hm.b).mono ?_
 rintro e w1 ⟨rfl,hb⟩
 have HS1:=aq (HS0.out.below hb)
 clear hb z1
 go_wp2_with fail
 refine (put_plain base g a0 a1 a2 a3 a4 m pc (.int .i64 28) (.int .i64 ia) (.int .i64 ib) (.int .i64 ic) (.int .i64 id) (.string s5) (.string s6) (.string s7) (.slice A8 n8 c8) v l (⟨11,0,(⟨1,m,ia,z44,z46⟩ : S50),z50,⟨z25,0,⟨#[]⟩⟩,z44,⟨#[]⟩,z25,noSl⟩ : CV) w1 HS1.out.hm (show (11 : Int) ≠ 1 by decide) (by have:=HL.out;omega) HS1.out.hs).mono ?_
 rintro e w2 ⟨v2,rfl,hm,hb,hk⟩
 have HS2:=aq (HS1.out.put hm hb hk)
 clear hm hb hk
 go_wp2_with fail
 exact bodyPost_end (v:=.tuple #[]) (by simp [results,Try.results46,go_sem]) rfl (by first|exact ⟨_,[(⟨11,pc,(⟨1,m,ia,z44,z46⟩ : S50),z50,⟨m,0,⟨#[]⟩⟩,z44,⟨#[]⟩,z25,noSl⟩ : CV)],rfl,HS2.out.hm,Nat.le_of_ble_eq_true rfl,(asked_set rfl rfl rfl (by simp [usesR]) (fun h => absurd (show (0 : Int) = 1 from h) (by decide)) asked_nil),HS2.out.hB,HS2.out.hK⟩|exact ⟨rfl,_,[(⟨11,pc,(⟨1,m,ia,z44,z46⟩ : S50),z50,⟨m,0,⟨#[]⟩⟩,z44,⟨#[]⟩,z25,noSl⟩ : CV)],HS2.out.hm,Nat.le_of_ble_eq_true rfl,(asked_set rfl rfl rfl (by simp [usesR]) (fun h => absurd (show (0 : Int) = 1 from h) (by decide)) asked_nil),HS2.out.hB,HS2.out.hK⟩)
theorem iv_ask (base g : Nat) (a0 a1 a2 a3 a4 : Value) (m : S25) (pc : Int) (ia ib ic id : Int) (s5 s6 s7 : ByteArray) (A8 : Option Addr) (n8 c8 : Nat) (ags : List Int) (v : Value) (l : List CV) (w : World) (hm : MkOwn w base g a0 a1 a2 a3 a4 m pc (.int .i64 29) (.int .i64 ia) (.int .i64 ib) (.int .i64 ic) (.int .i64 id) (.string s5) (.string s6) (.string s7) (.slice A8 n8 c8) v l) (hl : l.length + 2 ≤ 1048576) (hbz : base ≤ w.heap.size) :
  Calls Try.prog 46 #[.pointer (some ⟨g,0,none⟩)] w fun e w' => ∃ v' ins,e = .returned (.tuple #[]) ∧ MkOwn w' base g a0 a1 a2 a3 a4 m pc (.int .i64 29) (.int .i64 ia) (.int .i64 ib) (.int .i64 ic) (.int .i64 id) (.string s5) (.string s6) (.string s7) (.slice A8 n8 c8) v' (l ++ ins) ∧ ins.length ≤ 3 ∧ Asked m pc (⟨29,ia,ib,ic,id,s5,s6,s7,ags⟩ : S74) ins false ∧ Below base w w' ∧ Kp w w' g v v':=by
 have HS0:=aq (IvS.start hm hbz #[.int .i64 29,.int .i64 ia,.int .i64 ib,.int .i64 ic,.int .i64 id,.string s5,.string s6,.string s7,.slice A8 n8 c8] 74)
 have HL:=aq hl
 obtain ⟨e9,e10,e11,e12,e13,e14,e15,e16,e17⟩ : w.cell? ⟨g,9,none⟩ = some (.int .i64 29) ∧ w.cell? ⟨g,10,none⟩ = some (.int .i64 ia) ∧ w.cell? ⟨g,11,none⟩ = some (.int .i64 ib) ∧ w.cell? ⟨g,12,none⟩ = some (.int .i64 ic) ∧ w.cell? ⟨g,13,none⟩ = some (.int .i64 id) ∧ w.cell? ⟨g,14,none⟩ = some (.string s5) ∧ w.cell? ⟨g,15,none⟩ = some (.string s6) ∧ w.cell? ⟨g,16,none⟩ = some (.string s7) ∧ w.cell? ⟨g,17,none⟩ = some (.slice A8 n8 c8):=⟨blk_cell hm.b 9,blk_cell hm.b 10,blk_cell hm.b 11,blk_cell hm.b 12,blk_cell hm.b 13,blk_cell hm.b 14,blk_cell hm.b 15,blk_cell hm.b 16,blk_cell hm.b 17⟩
 clear hm hbz hl
 go_enter Try.func46,Try.ntmps46
 go_wp2_with fail
 clear e9 e10 e11 e12 e13 e14 e15 e16 e17
 go_wp2_with fail
 refine (put_plain base g a0 a1 a2 a3 a4 m pc (.int .i64 29) (.int .i64 ia) (.int .i64 ib) (.int .i64 ic) (.int .i64 id) (.string s5) (.string s6) (.string s7) (.slice A8 n8 c8) v l (⟨12,0,z50,z50,⟨z25,0,⟨#[]⟩⟩,z44,⟨#[]⟩,z25,noSl⟩ : CV) _ HS0.out.hm (show (12 : Int) ≠ 1 by decide) (by have:=HL.out;omega) HS0.out.hs).mono ?_
 rintro e w1 ⟨v1,rfl,hm,hb,hk⟩
 have HS1:=aq (HS0.out.put hm hb hk)
 clear hm hb hk
 go_wp2_with fail
 exact bodyPost_end (v:=.tuple #[]) (by simp [results,Try.results46,go_sem]) rfl (by first|exact ⟨_,[(⟨12,pc,z50,z50,⟨m,0,⟨#[]⟩⟩,z44,⟨#[]⟩,z25,noSl⟩ : CV)],rfl,HS1.out.hm,Nat.le_of_ble_eq_true rfl,(asked_cons rfl rfl (fun h => absurd (show (0 : Int) = 1 from h) (by decide)) (fun h => absurd (show (0 : Int) = 1 from h) (by decide)) asked_nil),HS1.out.hB,HS1.out.hK⟩|exact ⟨rfl,_,[(⟨12,pc,z50,z50,⟨m,0,⟨#[]⟩⟩,z44,⟨#[]⟩,z25,noSl⟩ : CV)],HS1.out.hm,Nat.le_of_ble_eq_true rfl,(asked_cons rfl rfl (fun h => absurd (show (0 : Int) = 1 from h) (by decide)) (fun h => absurd (show (0 : Int) = 1 from h) (by decide)) asked_nil),HS1.out.hB,HS1.out.hK⟩)
theorem iv_none (base g : Nat) (a0 a1 a2 a3 a4 : Value) (m : S25) (pc : Int) (op ia ib ic id : Int) (s5 s6 s7 : ByteArray) (A8 : Option Addr) (n8 c8 : Nat) (ags : List Int) (v : Value) (l : List CV) (w : World) (hop : ∀ n ∈ [(4 : Int), (25 : Int), (9 : Int), (10 : Int), (11 : Int), (13 : Int), (14 : Int), (15 : Int), (16 : Int), (17 : Int), (18 : Int), (19 : Int), (20 : Int), (21 : Int), (22 : Int), (28 : Int), (29 : Int), (32 : Int)], op ≠ n) (hm : MkOwn w base g a0 a1 a2 a3 a4 m pc (.int .i64 op) (.int .i64 ia) (.int .i64 ib) (.int .i64 ic) (.int .i64 id) (.string s5) (.string s6) (.string s7) (.slice A8 n8 c8) v l) (hl : l.length + 2 ≤ 1048576) (hbz : base ≤ w.heap.size) :
  Calls Try.prog 46 #[.pointer (some ⟨g,0,none⟩)] w fun e w' => ∃ v' ins,e = .returned (.tuple #[]) ∧ MkOwn w' base g a0 a1 a2 a3 a4 m pc (.int .i64 op) (.int .i64 ia) (.int .i64 ib) (.int .i64 ic) (.int .i64 id) (.string s5) (.string s6) (.string s7) (.slice A8 n8 c8) v' (l ++ ins) ∧ ins.length ≤ 3 ∧ Asked m pc (⟨op,ia,ib,ic,id,s5,s6,s7,ags⟩ : S74) ins false ∧ Below base w w' ∧ Kp w w' g v v':=by
 have k4 : (op == 4) = false:=beq_eq_false_iff_ne.2 (hop 4 (by decide))
 have k25 : (op == 25) = false:=beq_eq_false_iff_ne.2 (hop 25 (by decide))
 have k9 : (op == 9) = false:=beq_eq_false_iff_ne.2 (hop 9 (by decide))
 have k10 : (op == 10) = false:=beq_eq_false_iff_ne.2 (hop 10 (by decide))
 have k11 : (op == 11) = false:=beq_eq_false_iff_ne.2 (hop 11 (by decide))
 have k13 : (op == 13) = false:=beq_eq_false_iff_ne.2 (hop 13 (by decide))
 have k14 : (op == 14) = false:=beq_eq_false_iff_ne.2 (hop 14 (by decide))
 have k15 : (op == 15) = false:=beq_eq_false_iff_ne.2 (hop 15 (by decide))
 have k16 : (op == 16) = false:=beq_eq_false_iff_ne.2 (hop 16 (by decide))
 have k17 : (op == 17) = false:=beq_eq_false_iff_ne.2 (hop 17 (by decide))
 have k18 : (op == 18) = false:=beq_eq_false_iff_ne.2 (hop 18 (by decide))
 have k19 : (op == 19) = false:=beq_eq_false_iff_ne.2 (hop 19 (by decide))
 have k20 : (op == 20) = false:=beq_eq_false_iff_ne.2 (hop 20 (by decide))
 have k21 : (op == 21) = false:=beq_eq_false_iff_ne.2 (hop 21 (by decide))
 have k22 : (op == 22) = false:=beq_eq_false_iff_ne.2 (hop 22 (by decide))
 have k28 : (op == 28) = false:=beq_eq_false_iff_ne.2 (hop 28 (by decide))
 have k29 : (op == 29) = false:=beq_eq_false_iff_ne.2 (hop 29 (by decide))
 have k32 : (op == 32) = false:=beq_eq_false_iff_ne.2 (hop 32 (by decide))
 clear hop
 have HS0:=aq (IvS.start hm hbz #[.int .i64 op,.int .i64 ia,.int .i64 ib,.int .i64 ic,.int .i64 id,.string s5,.string s6,.string s7,.slice A8 n8 c8] 74)
 have HL:=aq hl
 obtain ⟨e9,e10,e11,e12,e13,e14,e15,e16,e17⟩ : w.cell? ⟨g,9,none⟩ = some (.int .i64 op) ∧ w.cell? ⟨g,10,none⟩ = some (.int .i64 ia) ∧ w.cell? ⟨g,11,none⟩ = some (.int .i64 ib) ∧ w.cell? ⟨g,12,none⟩ = some (.int .i64 ic) ∧ w.cell? ⟨g,13,none⟩ = some (.int .i64 id) ∧ w.cell? ⟨g,14,none⟩ = some (.string s5) ∧ w.cell? ⟨g,15,none⟩ = some (.string s6) ∧ w.cell? ⟨g,16,none⟩ = some (.string s7) ∧ w.cell? ⟨g,17,none⟩ = some (.slice A8 n8 c8):=⟨blk_cell hm.b 9,blk_cell hm.b 10,blk_cell hm.b 11,blk_cell hm.b 12,blk_cell hm.b 13,blk_cell hm.b 14,blk_cell hm.b 15,blk_cell hm.b 16,blk_cell hm.b 17⟩
 clear hm hbz hl
 go_enter Try.func46,Try.ntmps46
 go_wp2_with fail
 clear e9 e10 e11 e12 e13 e14 e15 e16 e17
 go_wp2_with fail
 exact bodyPost_end (v:=.tuple #[]) (by simp [results,Try.results46,go_sem]) rfl (by first|exact ⟨_,[],rfl,(by rw [List.append_nil];exact HS0.out.hm),Nat.le_of_ble_eq_true rfl,asked_nil,HS0.out.hB,HS0.out.hK⟩|exact ⟨rfl,_,[],(by rw [List.append_nil];exact HS0.out.hm),Nat.le_of_ble_eq_true rfl,asked_nil,HS0.out.hB,HS0.out.hK⟩)
theorem IvS.inner {w X W : World} {base g n : Nat} {a0 a1 a2 a3 a4 : Value} {m : S25} {pc : Int} {b0 b1 b2 b3 b4 b5 b6 b7 b8 : Value} {v : Value} {l : List CV} {cs : Array Value} {ty : TypeId} (hm : MkOwn X base g a0 a1 a2 a3 a4 m pc b0 b1 b2 b3 b4 b5 b6 b7 b8 v l) (hx : Below w.heap.size w X) (hbz : base ≤ w.heap.size) (hb : Below X.heap.size X W) (hz : W.heap[n]? = some (.cells cs ty (0, 0))) (hn : X.heap.size ≤ n) : IvS w W base g a0 a1 a2 a3 a4 m pc b0 b1 b2 b3 b4 b5 b6 b7 b8 v v l n cs ty :=
 ⟨hm.below hb (Nat.le_trans hbz hx.size),(hx.mono hbz).trans (hb.mono (Nat.le_trans hbz hx.size)),Kp.ofBelow (hx.trans (hb.mono hx.size)),hz,fun e => by have:=blk_lt hm.b;omega,fun e => by have:=Kd.R_lt hm.r _ e.symm;omega,Nat.le_trans (Nat.le_trans hbz hx.size) hb.size⟩
theorem mk_field15 (base g : Nat) (A0 : Option Addr) (c0 : Nat) (l0 : List S33) (A1 : Option Addr) (c1 : Nat) (l1 : List ByteArray) (a2 a3 a4 : ByteArray) (m : S25) (pc : Int) (ia ib ic id : Int) (s5 s6 s7 : ByteArray) (A8 : Option Addr) (n8 c8 : Nat) (ags : List Int) (v : Value) (l : List CV) (w : World) (hm : MkOwn w base g (.slice A0 l0.length c0) (.slice A1 l1.length c1) (.string a2) (.string a3) (.string a4) m pc (.int .i64 15) (.int .i64 ia) (.int .i64 ib) (.int .i64 ic) (.int .i64 id) (.string s5) (.string s6) (.string s7) (.slice A8 n8 c8) v l) (hl : l.length + 2 ≤ 1048576) (hbz : base ≤ w.heap.size) (hr0 : Kd.C k33 w A0 l0.length l0) (hc0 : l0.length ≤ c0) (hr1 : Kd.C Kd.string w A1 l1.length l1) (hc1 : l1.length ≤ c1) (r1 r2 : ByteArray) (ok : Bool) (hf : find_Field.f l0 l1 a2 a3 a4 s5 s6 = some (r1, r2, ok)) :
  Calls Try.prog 72 #[.pointer (some ⟨g,0,none⟩)] w fun e w' => ∃ v' ins,e = .returned (.tuple #[]) ∧ MkOwn w' base g (.slice A0 l0.length c0) (.slice A1 l1.length c1) (.string a2) (.string a3) (.string a4) m pc (.int .i64 15) (.int .i64 ia) (.int .i64 ib) (.int .i64 ic) (.int .i64 id) (.string s5) (.string s6) (.string s7) (.slice A8 n8 c8) v' (l ++ ins) ∧ ins.length ≤ 3 ∧ Asked m pc (⟨15,ia,ib,ic,id,s5,s6,s7,ags⟩ : S74) ins ok ∧ Below base w w' ∧ Kp w w' g v v':=by
 have HFD : Aside0 (∀ W,Below w.drew.heap.size w.drew W → Calls Try.prog 90 #[.agg (pG A0 l0 c0 A1 l1 c1 a2 a3 a4),.agg #[.string s5,.string s6]] W fun e w' => e = .returned (.tuple #[.agg #[.string r1,.string r2],.bool ok]) ∧ Below W.heap.size W w'):=⟨fun W hW => find_Field.calls A0 c0 l0 A1 c1 l1 a2 a3 a4 s5 s6 r1 r2 ok W (Kd.C_below hr0 ((below_drew1 (Below.refl _ _)).trans hW)) hc0 (Kd.C_below hr1 ((below_drew1 (Below.refl _ _)).trans hW)) hc1 hf⟩
 have HM0 : Aside0 (MkOwn w.drew base g (.slice A0 l0.length c0) (.slice A1 l1.length c1) (.string a2) (.string a3) (.string a4) m pc (.int .i64 15) (.int .i64 ia) (.int .i64 ib) (.int .i64 ic) (.int .i64 id) (.string s5) (.string s6) (.string s7) (.slice A8 n8 c8) v l):=⟨hm.below (below_drew1 (Below.refl _ _)) hbz⟩
 have HXB : Aside0 (Below w.heap.size w w.drew):=⟨below_drew1 (Below.refl _ _)⟩
 have HBc : Aside0 (Below w.drew.heap.size w.drew w.drew):=⟨Below.refl _ _⟩
 have HBz:=aq hbz
 have HL:=aq hl
 have z0 : w.drew.cell? ⟨g,0,none⟩ = some (.slice A0 l0.length c0):=blk_cell HM0.out.b 0
 have z1 : w.drew.cell? ⟨g,1,none⟩ = some (.slice A1 l1.length c1):=blk_cell HM0.out.b 1
 have z2 : w.drew.cell? ⟨g,2,none⟩ = some (.string a2):=blk_cell HM0.out.b 2
 have z3 : w.drew.cell? ⟨g,3,none⟩ = some (.string a3):=blk_cell HM0.out.b 3
 have z4 : w.drew.cell? ⟨g,4,none⟩ = some (.string a4):=blk_cell HM0.out.b 4
 have z5 : w.drew.cell? ⟨g,14,none⟩ = some (.string s5):=blk_cell HM0.out.b 14
 have z6 : w.drew.cell? ⟨g,15,none⟩ = some (.string s6):=blk_cell HM0.out.b 15
 clear hm hl hbz hr0 hr1 hf
 go_enter Try.func72,Try.ntmps72
 go_wp2_with fail
 refine start_ (n:=22) (S:=fun w' => w'.cell? ⟨g,0,none⟩ = some (.slice A0 l0.length c0) ∧ w'.cell? ⟨g,1,none⟩ = some (.slice A1 l1.length c1) ∧ w'.cell? ⟨g,2,none⟩ = some (.string a2) ∧ w'.cell? ⟨g,3,none⟩ = some (.string a3) ∧ w'.cell? ⟨g,4,none⟩ = some (.string a4) ∧ w'.cell? ⟨g,14,none⟩ = some (.string s5) ∧ w'.cell? ⟨g,15,none⟩ = some (.string s6)) (ds:=[20]) (Array.replicate 22 false) (by kernel_rfl) rfl rfl ⟨z0,z1,z2,z3,z4,z5,z6⟩ (fun hHeld => ?_)
 generalize w.drew = X at HM0 HFD HBc HXB z0 z1 z2 z3 z4 z5 z6 hHeld ⊢
 refine sP (i:=0) (N:=some 5) ?_
 refine sP (i:=1) (N:=some 6) ?_
 refine sP (i:=2) (N:=some 7) ?_
 refine sP (i:=4) (N:=some 9) ?_
 refine sP (i:=5) (N:=some 10) ?_
 refine sP (i:=6) (N:=some 11) ?_
 refine sP (i:=7) (N:=some 12) ?_
 refine sP (i:=9) (N:=some 14) ?_
 refine sP (i:=10) (N:=some 15) ?_
 refine sP (i:=11) (N:=some 16) ?_
 refine sP (i:=12) (N:=some 17) ?_
 refine sT (i:=3) (N:=some 8) hHeld ?_
 refine sT (i:=8) (N:=some 13) hHeld ?_
 refine sT (i:=13) (N:=some 18) hHeld ?_
 refine sP (i:=14) (N:=some 19) ?_
 refine join_ (σ:=Nat) 2 #[true,true,true,true,true,true,true,true,true,true,true,true,true,true,true,true,true,true,true,true,false,false] (fun s => [(20,.tuple #[.agg #[.string r1,.string r2],.bool ok]),(4,.tuple #[.agg #[.string r1,.string r2],.bool ok]),(21,.agg #[.string r1,.string r2]),(22,.bool ok),(2,.pointer (some ⟨s,0,none⟩))]) (fun s w' => w'.heap[s]? = some (Obj.cells #[.string ⟨#[]⟩,.string ⟨#[]⟩] 44 (0,0)) ∧ Below X.heap.size X w' ∧ X.heap.size ≤ s) ?_ ?_
 rotate_left
 ·
  intro hCont
  refine sW (i:=15) (j:=19) (Ni:=some 20) (Nj:=some 2) (fun K hK => ?_) fun K hK => ?_
  ·
   skip
   refine sG Try.func90 #[.agg (pG A0 l0 c0 A1 l1 c1 a2 a3 a4),.agg #[.string s5,.string s6]] ?_
   refine (HFD.out X HBc.out).mono ?_
   rintro e w4 ⟨rfl,hb⟩
   refine ⟨_,rfl,?_⟩
   replace HBc:=aq (HBc.out.trans (hb.mono HBc.out.size))
   clear hb
   refine hK.out _ _ ⟨(sC HBc.out z0),(sC HBc.out z1),(sC HBc.out z2),(sC HBc.out z3),(sC HBc.out z4),(sC HBc.out z5),(sC HBc.out z6)⟩ (fun hHeld => ?_)
   clear hK K
   refine sN ?_
   refine sP (i:=16) (N:=some 4) ?_
   refine sP (i:=17) (N:=some 21) ?_
   refine sP (i:=18) (N:=some 22) ?_
   refine sO (i:=19) (N:=some 2) fun K hK => ?_
   refine value_ (w1:=?_) (v:=?_) (by rfl) rfl ?_ ?_
   rotate_left 2
   ·
    go_simp
    constructor
    ·
     rfl
    ·
     rfl
   have HG : Aside0 (X.heap.size ≤ w4.heap.size):=⟨HBc.out.size⟩
   have hb : Below w4.heap.size w4 (w4.alloc (Obj.cells #[.string ⟨#[]⟩,.string ⟨#[]⟩] 44)):=below_alloc (Below.refl _ _) _
   replace HBc:=aq (HBc.out.trans (hb.mono HBc.out.size))
   have HF:=aq (World.alloc_heap_new w4 (Obj.cells #[.string ⟨#[]⟩,.string ⟨#[]⟩] 44))
   clear hb
   refine hK.out _ _ ⟨(sC HBc.out z0),(sC HBc.out z1),(sC HBc.out z2),(sC HBc.out z3),(sC HBc.out z4),(sC HBc.out z5),(sC HBc.out z6)⟩ (fun hHeld => ?_)
   clear hK K
   refine sN ?_
   exact norm_ (by simp only [putAll,Act.put,List.setIfInBounds_toArray,List.set_cons_zero,List.set_cons_succ]) (hCont w4.heap.size _ ⟨HF.out,HBc.out,HG.out⟩)
  ·
   skip
   refine value_ (w1:=?_) (v:=?_) (by rfl) rfl ?_ ?_
   rotate_left 2
   ·
    go_simp
    constructor
    ·
     rfl
    ·
     rfl
   have HG : Aside0 (X.heap.size ≤ X.heap.size):=⟨HBc.out.size⟩
   have hb : Below X.heap.size X (X.alloc (Obj.cells #[.string ⟨#[]⟩,.string ⟨#[]⟩] 44)):=below_alloc (Below.refl _ _) _
   replace HBc:=aq (HBc.out.trans (hb.mono HBc.out.size))
   have HF:=aq (World.alloc_heap_new X (Obj.cells #[.string ⟨#[]⟩,.string ⟨#[]⟩] 44))
   clear hb
   refine hK.out _ _ ⟨(sC HBc.out z0),(sC HBc.out z1),(sC HBc.out z2),(sC HBc.out z3),(sC HBc.out z4),(sC HBc.out z5),(sC HBc.out z6)⟩ (fun hHeld => ?_)
   clear hK K
   refine sN ?_
   refine sO (i:=15) (N:=some 20) fun K hK => ?_
   refine sG Try.func90 #[.agg (pG A0 l0 c0 A1 l1 c1 a2 a3 a4),.agg #[.string s5,.string s6]] ?_
   refine (HFD.out (X.alloc (Obj.cells #[.string ⟨#[]⟩,.string ⟨#[]⟩] 44)) HBc.out).mono ?_
   rintro e w4 ⟨rfl,hb⟩
   refine ⟨_,rfl,?_⟩
   replace HF:=aq (blk_below HF.out hb)
   replace HBc:=aq (HBc.out.trans (hb.mono HBc.out.size))
   clear hb
   refine hK.out _ _ ⟨(sC HBc.out z0),(sC HBc.out z1),(sC HBc.out z2),(sC HBc.out z3),(sC HBc.out z4),(sC HBc.out z5),(sC HBc.out z6)⟩ (fun hHeld => ?_)
   clear hK K
   refine sN ?_
   refine sP (i:=16) (N:=some 4) ?_
   refine sP (i:=17) (N:=some 21) ?_
   refine sP (i:=18) (N:=some 22) ?_
   exact norm_ (by simp only [putAll,Act.put,List.setIfInBounds_toArray,List.set_cons_zero,List.set_cons_succ]) (hCont X.heap.size _ ⟨HF.out,HBc.out,HG.out⟩)
 rintro n w7 ⟨hf,hb,hg⟩
 replace HBc:=aq hb
 have hHeld : w7.cell? ⟨g,0,none⟩ = some (.slice A0 l0.length c0) ∧ w7.cell? ⟨g,1,none⟩ = some (.slice A1 l1.length c1) ∧ w7.cell? ⟨g,2,none⟩ = some (.string a2) ∧ w7.cell? ⟨g,3,none⟩ = some (.string a3) ∧ w7.cell? ⟨g,4,none⟩ = some (.string a4) ∧ w7.cell? ⟨g,14,none⟩ = some (.string s5) ∧ w7.cell? ⟨g,15,none⟩ = some (.string s6):=⟨(sC HBc.out z0),(sC HBc.out z1),(sC HBc.out z2),(sC HBc.out z3),(sC HBc.out z4),(sC HBc.out z5),(sC HBc.out z6)⟩
 have HF:=aq hf
 have HG:=aq hg
 clear hf hb hg
 obtain ⟨e0,e1⟩:=cells2f HF.out
 have ef:=blk_frozen HF.out
 refine norm_ (a':=?_) ?_ ?_
 rotate_left
 ·
  simp only [putAll,Act.put,List.setIfInBounds_toArray,List.set_cons_zero,List.set_cons_succ]
  rfl
 refine sX (i:=20) (N:=none) fun K hK => ?_
 refine skip_ (w1:=?_) (by rfl) rfl ?_ ?_
 rotate_left
 ·
  go_simp
  rfl
 have hz8:=set2_own HF.out (.string r1) (.string r2)
 have hb8:=(HBc.out.setCell (p:=⟨n,0,none⟩) HG.out (.string r1)).setCell (p:=⟨n,1,none⟩) HG.out (.string r2)
 generalize ((w7.setCell ⟨n,0,none⟩ (.string r1)).setCell ⟨n,1,none⟩ (.string r2)) = w8 at hz8 hb8 ⊢
 have HZ8:=aq hz8
 have HB8:=aq hb8
 clear hz8 hb8 e0 e1 ef
 refine hK.out _ _ ?_
 clear hK K
 refine sP (i:=21) (N:=some 3) ?_
 refine done_ (by kernel_rfl) ?_
 have HS8 : Aside0 (IvS w w8 base g (.slice A0 l0.length c0) (.slice A1 l1.length c1) (.string a2) (.string a3) (.string a4) m pc (.int .i64 15) (.int .i64 ia) (.int .i64 ib) (.int .i64 ic) (.int .i64 id) (.string s5) (.string s6) (.string s7) (.slice A8 n8 c8) v v l n #[.string r1,.string r2] 44):=⟨IvS.inner HM0.out HXB.out HBz.out HB8.out HZ8.out HG.out⟩
 clear hHeld z0 z1 z2 z3 z4 z5 z6 HM0 HBc HXB HF HB8 HZ8 HG HFD
 cases ok
 ·
  go_wp2_with fail
  exact bodyPost_ret (v:=.tuple #[]) (by simp [results,Try.results72,go_sem]) rfl (by first|exact ⟨_,[],rfl,(by rw [List.append_nil];exact HS8.out.hm),Nat.le_of_ble_eq_true rfl,asked_nil,HS8.out.hB,HS8.out.hK⟩|exact ⟨rfl,_,[],(by rw [List.append_nil];exact HS8.out.hm),Nat.le_of_ble_eq_true rfl,asked_nil,HS8.out.hB,HS8.out.hK⟩)
 have k9 : w8.cell? ⟨g,9,none⟩ = some (.int .i64 15):=blk_cell HS8.out.hm.b 9
 have f0 : w8.cell? ⟨n,0,none⟩ = some (.string r1):=blk_cell HS8.out.hz 0
 have f1 : w8.cell? ⟨n,1,none⟩ = some (.string r2):=blk_cell HS8.out.hz 1
 go_wp2_with fail
 clear k9
 refine (put_plain base g (.slice A0 l0.length c0) (.slice A1 l1.length c1) (.string a2) (.string a3) (.string a4) m pc (.int .i64 15) (.int .i64 ia) (.int .i64 ib) (.int .i64 ic) (.int .i64 id) (.string s5) (.string s6) (.string s7) (.slice A8 n8 c8) v (l) (⟨8,0,z50,z50,⟨z25,0,⟨#[]⟩⟩,(⟨r1,r2⟩ : S44),⟨#[]⟩,z25,noSl⟩ : CV) w8 HS8.out.hm (show (8 : Int) ≠ 1 by decide) (by have:=HL.out;(try simp only [List.length_append,List.length_cons,List.length_nil]);omega) HS8.out.hs).mono ?_
 rintro e w9 ⟨v1,rfl,hm,hb,hk⟩
 have HS9:=aq (HS8.out.put hm hb hk)
 clear hm hb hk
 clear f0 f1
 have HS : Aside0 (IvS w w9.drew base g (.slice A0 l0.length c0) (.slice A1 l1.length c1) (.string a2) (.string a3) (.string a4) m pc (.int .i64 15) (.int .i64 ia) (.int .i64 ib) (.int .i64 ic) (.int .i64 id) (.string s5) (.string s6) (.string s7) (.slice A8 n8 c8) v v1 (l ++ [(⟨8,pc,z50,z50,⟨m,0,⟨#[]⟩⟩,(⟨r1,r2⟩ : S44),⟨#[]⟩,z25,noSl⟩ : CV)]) n #[.string r1,.string r2] 44):=⟨HS9.out.below (below_drew1 (Below.refl _ _))⟩
 have z0 : w9.drew.cell? ⟨g,10,none⟩ = some (.int .i64 ia):=blk_cell HS.out.hm.b 10
 have z1 : w9.drew.cell? ⟨g,11,none⟩ = some (.int .i64 ib):=blk_cell HS.out.hm.b 11
 have z2 : w9.drew.cell? ⟨n,0,none⟩ = some (.string r1):=blk_cell HS.out.hz 0
 have z3 : w9.drew.cell? ⟨n,1,none⟩ = some (.string r2):=blk_cell HS.out.hz 1
 go_wp2_with fail
 refine start_ (n:=18) (S:=fun w' => w'.cell? ⟨g,10,none⟩ = some (.int .i64 ia) ∧ w'.cell? ⟨g,11,none⟩ = some (.int .i64 ib) ∧ w'.cell? ⟨n,0,none⟩ = some (.string r1) ∧ w'.cell? ⟨n,1,none⟩ = some (.string r2)) (ds:=[17]) (Array.replicate 18 false) (by kernel_rfl) rfl rfl ⟨z0,z1,z2,z3⟩ (fun hHeld => ?_)
 generalize w9.drew = X at HS z0 z1 z2 z3 hHeld ⊢
 refine sP (i:=0) (N:=some 36) ?_
 refine sP (i:=1) (N:=some 37) ?_
 refine sP (i:=2) (N:=some 38) ?_
 refine sP (i:=3) (N:=some 39) ?_
 refine sP (i:=4) (N:=some 40) ?_
 refine sP (i:=5) (N:=some 41) ?_
 refine sP (i:=8) (N:=some 44) ?_
 refine sP (i:=9) (N:=some 45) ?_
 refine sP (i:=10) (N:=some 46) ?_
 refine sP (i:=11) (N:=some 47) ?_
 refine sP (i:=12) (N:=some 48) ?_
 refine sT (i:=6) (N:=some 42) hHeld ?_
 refine sT (i:=13) (N:=some 49) hHeld ?_
 refine sT (i:=15) (N:=some 51) hHeld ?_
 refine sO (i:=7) (N:=some 43) fun K hK => ?_
 refine sG Try.func38 #[.pointer (some ⟨g,0,none⟩),.int .i64 ia] ?_
 refine (maker_reg g (.slice A0 l0.length c0) (.slice A1 l1.length c1) (.string a2) (.string a3) (.string a4) m pc (.int .i64 15) (.int .i64 ia) (.int .i64 ib) (.int .i64 ic) (.int .i64 id) (.string s5) (.string s6) (.string s7) (.slice A8 n8 c8) v1 ia X HS.out.hm.b).mono ?_
 rintro e w1 ⟨rfl,hb⟩
 refine ⟨_,rfl,?_⟩
 have y0:=sC hb z0
 have y1:=sC hb z1
 have y2:=sC hb z2
 have y3:=sC hb z3
 have HT1:=aq (HS.out.below hb)
 clear hb
 refine hK.out _ _ ⟨y0,y1,y2,y3⟩ (fun hHeld => ?_)
 clear hK K
 refine sN ?_
 refine sO (i:=14) (N:=some 50) fun K hK => ?_
 refine sG Try.func38 #[.pointer (some ⟨g,0,none⟩),.int .i64 ib] ?_
 refine (maker_reg g (.slice A0 l0.length c0) (.slice A1 l1.length c1) (.string a2) (.string a3) (.string a4) m pc (.int .i64 15) (.int .i64 ia) (.int .i64 ib) (.int .i64 ic) (.int .i64 id) (.string s5) (.string s6) (.string s7) (.slice A8 n8 c8) v1 ib w1 HT1.out.hm.b).mono ?_
 rintro e w2 ⟨rfl,hb⟩
 refine ⟨_,rfl,?_⟩
 have x0:=sC hb y0
 have x1:=sC hb y1
 have x2:=sC hb y2
 have x3:=sC hb y3
 have HT2:=aq (HT1.out.below hb)
 clear hb
 refine hK.out _ _ ⟨x0,x1,x2,x3⟩ (fun hHeld => ?_)
 clear hK K
 refine sN ?_
 refine sP (i:=16) (N:=some 52) ?_
 refine sX (i:=17) (N:=some 53) fun K hK => ?_
 refine sG Try.func61 #[.pointer (some ⟨g,0,none⟩),.agg (List.toArray ((kK 3 0 (qR 1 m ia (qR 1 m ib (sZ (fS r1 r2 (kS ⟨#[]⟩ (mZ [.slice none 0 0])))))))))] ?_
 refine (put_plain base g (.slice A0 l0.length c0) (.slice A1 l1.length c1) (.string a2) (.string a3) (.string a4) m pc (.int .i64 15) (.int .i64 ia) (.int .i64 ib) (.int .i64 ic) (.int .i64 id) (.string s5) (.string s6) (.string s7) (.slice A8 n8 c8) v1 (l ++ [(⟨8,pc,z50,z50,⟨m,0,⟨#[]⟩⟩,(⟨r1,r2⟩ : S44),⟨#[]⟩,z25,noSl⟩ : CV)]) (⟨3,0,(⟨1,m,ia,z44,z46⟩ : S50),(⟨1,m,ib,z44,z46⟩ : S50),⟨z25,0,⟨#[]⟩⟩,(⟨r1,r2⟩ : S44),⟨#[]⟩,z25,noSl⟩ : CV) w2 HT2.out.hm (show (3 : Int) ≠ 1 by decide) (by have:=HL.out;(try simp only [List.length_append,List.length_cons,List.length_nil]);omega) HT2.out.hs).mono ?_
 rintro e w3 ⟨v3,rfl,hm3,hb3,hk3⟩
 refine ⟨_,rfl,?_⟩
 have HS3:=aq (HT2.out.put hm3 hb3 hk3)
 clear hm3 hb3 hk3
 refine hK.out _ _ ?_
 clear hK K
 refine sN ?_
 refine done_ (by kernel_rfl) ?_
 go_wp2_with fail
 try simp only [List.append_assoc,List.cons_append,List.nil_append] at HS3
 exact bodyPost_end (v:=.tuple #[]) (by simp [results,Try.results72,go_sem]) rfl (by first|exact ⟨_,[(⟨8,pc,z50,z50,⟨m,0,⟨#[]⟩⟩,(⟨r1,r2⟩ : S44),⟨#[]⟩,z25,noSl⟩ : CV),(⟨3,pc,(⟨1,m,ia,z44,z46⟩ : S50),(⟨1,m,ib,z44,z46⟩ : S50),⟨m,0,⟨#[]⟩⟩,(⟨r1,r2⟩ : S44),⟨#[]⟩,z25,noSl⟩ : CV)],rfl,HS3.out.hm,Nat.le_of_ble_eq_true rfl,(asked_cons rfl rfl (fun h => absurd (show (0 : Int) = 1 from h) (by decide)) (fun h => absurd (show (0 : Int) = 1 from h) (by decide)) (asked_set rfl rfl rfl (by simp [usesR]) (fun _ => ⟨rfl,by simp [usesR]⟩) asked_nil)),HS3.out.hB,HS3.out.hK⟩|exact ⟨rfl,_,[(⟨8,pc,z50,z50,⟨m,0,⟨#[]⟩⟩,(⟨r1,r2⟩ : S44),⟨#[]⟩,z25,noSl⟩ : CV),(⟨3,pc,(⟨1,m,ia,z44,z46⟩ : S50),(⟨1,m,ib,z44,z46⟩ : S50),⟨m,0,⟨#[]⟩⟩,(⟨r1,r2⟩ : S44),⟨#[]⟩,z25,noSl⟩ : CV)],HS3.out.hm,Nat.le_of_ble_eq_true rfl,(asked_cons rfl rfl (fun h => absurd (show (0 : Int) = 1 from h) (by decide)) (fun h => absurd (show (0 : Int) = 1 from h) (by decide)) (asked_set rfl rfl rfl (by simp [usesR]) (fun _ => ⟨rfl,by simp [usesR]⟩) asked_nil)),HS3.out.hB,HS3.out.hK⟩)
theorem mk_field16 (base g : Nat) (A0 : Option Addr) (c0 : Nat) (l0 : List S33) (A1 : Option Addr) (c1 : Nat) (l1 : List ByteArray) (a2 a3 a4 : ByteArray) (m : S25) (pc : Int) (ia ib ic id : Int) (s5 s6 s7 : ByteArray) (A8 : Option Addr) (n8 c8 : Nat) (ags : List Int) (v : Value) (l : List CV) (w : World) (hm : MkOwn w base g (.slice A0 l0.length c0) (.slice A1 l1.length c1) (.string a2) (.string a3) (.string a4) m pc (.int .i64 16) (.int .i64 ia) (.int .i64 ib) (.int .i64 ic) (.int .i64 id) (.string s5) (.string s6) (.string s7) (.slice A8 n8 c8) v l) (hl : l.length + 2 ≤ 1048576) (hbz : base ≤ w.heap.size) (hr0 : Kd.C k33 w A0 l0.length l0) (hc0 : l0.length ≤ c0) (hr1 : Kd.C Kd.string w A1 l1.length l1) (hc1 : l1.length ≤ c1) (r1 r2 : ByteArray) (ok : Bool) (hf : find_Field.f l0 l1 a2 a3 a4 s5 s6 = some (r1, r2, ok)) :
  Calls Try.prog 72 #[.pointer (some ⟨g,0,none⟩)] w fun e w' => ∃ v' ins,e = .returned (.tuple #[]) ∧ MkOwn w' base g (.slice A0 l0.length c0) (.slice A1 l1.length c1) (.string a2) (.string a3) (.string a4) m pc (.int .i64 16) (.int .i64 ia) (.int .i64 ib) (.int .i64 ic) (.int .i64 id) (.string s5) (.string s6) (.string s7) (.slice A8 n8 c8) v' (l ++ ins) ∧ ins.length ≤ 3 ∧ Asked m pc (⟨16,ia,ib,ic,id,s5,s6,s7,ags⟩ : S74) ins false ∧ Below base w w' ∧ Kp w w' g v v':=by
 have HFD : Aside0 (∀ W,Below w.drew.heap.size w.drew W → Calls Try.prog 90 #[.agg (pG A0 l0 c0 A1 l1 c1 a2 a3 a4),.agg #[.string s5,.string s6]] W fun e w' => e = .returned (.tuple #[.agg #[.string r1,.string r2],.bool ok]) ∧ Below W.heap.size W w'):=⟨fun W hW => find_Field.calls A0 c0 l0 A1 c1 l1 a2 a3 a4 s5 s6 r1 r2 ok W (Kd.C_below hr0 ((below_drew1 (Below.refl _ _)).trans hW)) hc0 (Kd.C_below hr1 ((below_drew1 (Below.refl _ _)).trans hW)) hc1 hf⟩
 have HM0 : Aside0 (MkOwn w.drew base g (.slice A0 l0.length c0) (.slice A1 l1.length c1) (.string a2) (.string a3) (.string a4) m pc (.int .i64 16) (.int .i64 ia) (.int .i64 ib) (.int .i64 ic) (.int .i64 id) (.string s5) (.string s6) (.string s7) (.slice A8 n8 c8) v l):=⟨hm.below (below_drew1 (Below.refl _ _)) hbz⟩
 have HXB : Aside0 (Below w.heap.size w w.drew):=⟨below_drew1 (Below.refl _ _)⟩
 have HBc : Aside0 (Below w.drew.heap.size w.drew w.drew):=⟨Below.refl _ _⟩
 have HBz:=aq hbz
 have HL:=aq hl
 have z0 : w.drew.cell? ⟨g,0,none⟩ = some (.slice A0 l0.length c0):=blk_cell HM0.out.b 0
 have z1 : w.drew.cell? ⟨g,1,none⟩ = some (.slice A1 l1.length c1):=blk_cell HM0.out.b 1
 have z2 : w.drew.cell? ⟨g,2,none⟩ = some (.string a2):=blk_cell HM0.out.b 2
 have z3 : w.drew.cell? ⟨g,3,none⟩ = some (.string a3):=blk_cell HM0.out.b 3
 have z4 : w.drew.cell? ⟨g,4,none⟩ = some (.string a4):=blk_cell HM0.out.b 4
 have z5 : w.drew.cell? ⟨g,14,none⟩ = some (.string s5):=blk_cell HM0.out.b 14
 have z6 : w.drew.cell? ⟨g,15,none⟩ = some (.string s6):=blk_cell HM0.out.b 15
 clear hm hl hbz hr0 hr1 hf
 go_enter Try.func72,Try.ntmps72
 go_wp2_with fail
 refine start_ (n:=22) (S:=fun w' => w'.cell? ⟨g,0,none⟩ = some (.slice A0 l0.length c0) ∧ w'.cell? ⟨g,1,none⟩ = some (.slice A1 l1.length c1) ∧ w'.cell? ⟨g,2,none⟩ = some (.string a2) ∧ w'.cell? ⟨g,3,none⟩ = some (.string a3) ∧ w'.cell? ⟨g,4,none⟩ = some (.string a4) ∧ w'.cell? ⟨g,14,none⟩ = some (.string s5) ∧ w'.cell? ⟨g,15,none⟩ = some (.string s6)) (ds:=[20]) (Array.replicate 22 false) (by kernel_rfl) rfl rfl ⟨z0,z1,z2,z3,z4,z5,z6⟩ (fun hHeld => ?_)
 generalize w.drew = X at HM0 HFD HBc HXB z0 z1 z2 z3 z4 z5 z6 hHeld ⊢
 refine sP (i:=0) (N:=some 5) ?_
 refine sP (i:=1) (N:=some 6) ?_
 refine sP (i:=2) (N:=some 7) ?_
 refine sP (i:=4) (N:=some 9) ?_
 refine sP (i:=5) (N:=some 10) ?_
 refine sP (i:=6) (N:=some 11) ?_
 refine sP (i:=7) (N:=some 12) ?_
 refine sP (i:=9) (N:=some 14) ?_
 refine sP (i:=10) (N:=some 15) ?_
 refine sP (i:=11) (N:=some 16) ?_
 refine sP (i:=12) (N:=some 17) ?_
 refine sT (i:=3) (N:=some 8) hHeld ?_
 refine sT (i:=8) (N:=some 13) hHeld ?_
 refine sT (i:=13) (N:=some 18) hHeld ?_
 refine sP (i:=14) (N:=some 19) ?_
 refine join_ (σ:=Nat) 2 #[true,true,true,true,true,true,true,true,true,true,true,true,true,true,true,true,true,true,true,true,false,false] (fun s => [(20,.tuple #[.agg #[.string r1,.string r2],.bool ok]),(4,.tuple #[.agg #[.string r1,.string r2],.bool ok]),(21,.agg #[.string r1,.string r2]),(22,.bool ok),(2,.pointer (some ⟨s,0,none⟩))]) (fun s w' => w'.heap[s]? = some (Obj.cells #[.string ⟨#[]⟩,.string ⟨#[]⟩] 44 (0,0)) ∧ Below X.heap.size X w' ∧ X.heap.size ≤ s) ?_ ?_
 rotate_left
 ·
  intro hCont
  refine sW (i:=15) (j:=19) (Ni:=some 20) (Nj:=some 2) (fun K hK => ?_) fun K hK => ?_
  ·
   skip
   refine sG Try.func90 #[.agg (pG A0 l0 c0 A1 l1 c1 a2 a3 a4),.agg #[.string s5,.string s6]] ?_
   refine (HFD.out X HBc.out).mono ?_
   rintro e w4 ⟨rfl,hb⟩
   refine ⟨_,rfl,?_⟩
   replace HBc:=aq (HBc.out.trans (hb.mono HBc.out.size))
   clear hb
   refine hK.out _ _ ⟨(sC HBc.out z0),(sC HBc.out z1),(sC HBc.out z2),(sC HBc.out z3),(sC HBc.out z4),(sC HBc.out z5),(sC HBc.out z6)⟩ (fun hHeld => ?_)
   clear hK K
   refine sN ?_
   refine sP (i:=16) (N:=some 4) ?_
   refine sP (i:=17) (N:=some 21) ?_
   refine sP (i:=18) (N:=some 22) ?_
   refine sO (i:=19) (N:=some 2) fun K hK => ?_
   refine value_ (w1:=?_) (v:=?_) (by rfl) rfl ?_ ?_
   rotate_left 2
   ·
    go_simp
    constructor
    ·
     rfl
    ·
     rfl
   have HG : Aside0 (X.heap.size ≤ w4.heap.size):=⟨HBc.out.size⟩
   have hb : Below w4.heap.size w4 (w4.alloc (Obj.cells #[.string ⟨#[]⟩,.string ⟨#[]⟩] 44)):=below_alloc (Below.refl _ _) _
   replace HBc:=aq (HBc.out.trans (hb.mono HBc.out.size))
   have HF:=aq (World.alloc_heap_new w4 (Obj.cells #[.string ⟨#[]⟩,.string ⟨#[]⟩] 44))
   clear hb
   refine hK.out _ _ ⟨(sC HBc.out z0),(sC HBc.out z1),(sC HBc.out z2),(sC HBc.out z3),(sC HBc.out z4),(sC HBc.out z5),(sC HBc.out z6)⟩ (fun hHeld => ?_)
   clear hK K
   refine sN ?_
   exact norm_ (by simp only [putAll,Act.put,List.setIfInBounds_toArray,List.set_cons_zero,List.set_cons_succ]) (hCont w4.heap.size _ ⟨HF.out,HBc.out,HG.out⟩)
  ·
   skip
   refine value_ (w1:=?_) (v:=?_) (by rfl) rfl ?_ ?_
   rotate_left 2
   ·
    go_simp
    constructor
    ·
     rfl
    ·
     rfl
   have HG : Aside0 (X.heap.size ≤ X.heap.size):=⟨HBc.out.size⟩
   have hb : Below X.heap.size X (X.alloc (Obj.cells #[.string ⟨#[]⟩,.string ⟨#[]⟩] 44)):=below_alloc (Below.refl _ _) _
   replace HBc:=aq (HBc.out.trans (hb.mono HBc.out.size))
   have HF:=aq (World.alloc_heap_new X (Obj.cells #[.string ⟨#[]⟩,.string ⟨#[]⟩] 44))
   clear hb
   refine hK.out _ _ ⟨(sC HBc.out z0),(sC HBc.out z1),(sC HBc.out z2),(sC HBc.out z3),(sC HBc.out z4),(sC HBc.out z5),(sC HBc.out z6)⟩ (fun hHeld => ?_)
   clear hK K
   refine sN ?_
   refine sO (i:=15) (N:=some 20) fun K hK => ?_
   refine sG Try.func90 #[.agg (pG A0 l0 c0 A1 l1 c1 a2 a3 a4),.agg #[.string s5,.string s6]] ?_
   refine (HFD.out (X.alloc (Obj.cells #[.string ⟨#[]⟩,.string ⟨#[]⟩] 44)) HBc.out).mono ?_
   rintro e w4 ⟨rfl,hb⟩
   refine ⟨_,rfl,?_⟩
   replace HF:=aq (blk_below HF.out hb)
   replace HBc:=aq (HBc.out.trans (hb.mono HBc.out.size))
   clear hb
   refine hK.out _ _ ⟨(sC HBc.out z0),(sC HBc.out z1),(sC HBc.out z2),(sC HBc.out z3),(sC HBc.out z4),(sC HBc.out z5),(sC HBc.out z6)⟩ (fun hHeld => ?_)
   clear hK K
   refine sN ?_
   refine sP (i:=16) (N:=some 4) ?_
   refine sP (i:=17) (N:=some 21) ?_
   refine sP (i:=18) (N:=some 22) ?_
   exact norm_ (by simp only [putAll,Act.put,List.setIfInBounds_toArray,List.set_cons_zero,List.set_cons_succ]) (hCont X.heap.size _ ⟨HF.out,HBc.out,HG.out⟩)
 rintro n w7 ⟨hf,hb,hg⟩
 replace HBc:=aq hb
 have hHeld : w7.cell? ⟨g,0,none⟩ = some (.slice A0 l0.length c0) ∧ w7.cell? ⟨g,1,none⟩ = some (.slice A1 l1.length c1) ∧ w7.cell? ⟨g,2,none⟩ = some (.string a2) ∧ w7.cell? ⟨g,3,none⟩ = some (.string a3) ∧ w7.cell? ⟨g,4,none⟩ = some (.string a4) ∧ w7.cell? ⟨g,14,none⟩ = some (.string s5) ∧ w7.cell? ⟨g,15,none⟩ = some (.string s6):=⟨(sC HBc.out z0),(sC HBc.out z1),(sC HBc.out z2),(sC HBc.out z3),(sC HBc.out z4),(sC HBc.out z5),(sC HBc.out z6)⟩
 have HF:=aq hf
 have HG:=aq hg
 clear hf hb hg
 obtain ⟨e0,e1⟩:=cells2f HF.out
 have ef:=blk_frozen HF.out
 refine norm_ (a':=?_) ?_ ?_
 rotate_left
 ·
  simp only [putAll,Act.put,List.setIfInBounds_toArray,List.set_cons_zero,List.set_cons_succ]
  rfl
 refine sX (i:=20) (N:=none) fun K hK => ?_
 refine skip_ (w1:=?_) (by rfl) rfl ?_ ?_
 rotate_left
 ·
  go_simp
  rfl
 have hz8:=set2_own HF.out (.string r1) (.string r2)
 have hb8:=(HBc.out.setCell (p:=⟨n,0,none⟩) HG.out (.string r1)).setCell (p:=⟨n,1,none⟩) HG.out (.string r2)
 generalize ((w7.setCell ⟨n,0,none⟩ (.string r1)).setCell ⟨n,1,none⟩ (.string r2)) = w8 at hz8 hb8 ⊢
 have HZ8:=aq hz8
 have HB8:=aq hb8
 clear hz8 hb8 e0 e1 ef
 refine hK.out _ _ ?_
 clear hK K
 refine sP (i:=21) (N:=some 3) ?_
 refine done_ (by kernel_rfl) ?_
 have HS8 : Aside0 (IvS w w8 base g (.slice A0 l0.length c0) (.slice A1 l1.length c1) (.string a2) (.string a3) (.string a4) m pc (.int .i64 16) (.int .i64 ia) (.int .i64 ib) (.int .i64 ic) (.int .i64 id) (.string s5) (.string s6) (.string s7) (.slice A8 n8 c8) v v l n #[.string r1,.string r2] 44):=⟨IvS.inner HM0.out HXB.out HBz.out HB8.out HZ8.out HG.out⟩
 clear hHeld z0 z1 z2 z3 z4 z5 z6 HM0 HBc HXB HF HB8 HZ8 HG HFD
 cases ok
 ·
  go_wp2_with fail
  exact bodyPost_ret (v:=.tuple #[]) (by simp [results,Try.results72,go_sem]) rfl (by first|exact ⟨_,[],rfl,(by rw [List.append_nil];exact HS8.out.hm),Nat.le_of_ble_eq_true rfl,asked_nil,HS8.out.hB,HS8.out.hK⟩|exact ⟨rfl,_,[],(by rw [List.append_nil];exact HS8.out.hm),Nat.le_of_ble_eq_true rfl,asked_nil,HS8.out.hB,HS8.out.hK⟩)
 have k9 : w8.cell? ⟨g,9,none⟩ = some (.int .i64 16):=blk_cell HS8.out.hm.b 9
 go_wp2_with fail
 clear k9
 have HS : Aside0 (IvS w w8.drew base g (.slice A0 l0.length c0) (.slice A1 l1.length c1) (.string a2) (.string a3) (.string a4) m pc (.int .i64 16) (.int .i64 ia) (.int .i64 ib) (.int .i64 ic) (.int .i64 id) (.string s5) (.string s6) (.string s7) (.slice A8 n8 c8) v v l n #[.string r1,.string r2] 44):=⟨HS8.out.below (below_drew1 (Below.refl _ _))⟩
 have z0 : w8.drew.cell? ⟨g,11,none⟩ = some (.int .i64 ib):=blk_cell HS.out.hm.b 11
 have z1 : w8.drew.cell? ⟨g,12,none⟩ = some (.int .i64 ic):=blk_cell HS.out.hm.b 12
 have z2 : w8.drew.cell? ⟨n,0,none⟩ = some (.string r1):=blk_cell HS.out.hz 0
 have z3 : w8.drew.cell? ⟨n,1,none⟩ = some (.string r2):=blk_cell HS.out.hz 1
 go_wp2_with fail
 refine start_ (n:=18) (S:=fun w' => w'.cell? ⟨g,11,none⟩ = some (.int .i64 ib) ∧ w'.cell? ⟨g,12,none⟩ = some (.int .i64 ic) ∧ w'.cell? ⟨n,0,none⟩ = some (.string r1) ∧ w'.cell? ⟨n,1,none⟩ = some (.string r2)) (ds:=[17]) (Array.replicate 18 false) (by kernel_rfl) rfl rfl ⟨z0,z1,z2,z3⟩ (fun hHeld => ?_)
 generalize w8.drew = X at HS z0 z1 z2 z3 hHeld ⊢
 refine sP (i:=0) (N:=some 56) ?_
 refine sP (i:=1) (N:=some 57) ?_
 refine sP (i:=2) (N:=some 58) ?_
 refine sP (i:=3) (N:=some 59) ?_
 refine sP (i:=4) (N:=some 60) ?_
 refine sP (i:=5) (N:=some 61) ?_
 refine sP (i:=8) (N:=some 64) ?_
 refine sP (i:=9) (N:=some 65) ?_
 refine sP (i:=10) (N:=some 66) ?_
 refine sP (i:=11) (N:=some 67) ?_
 refine sP (i:=12) (N:=some 68) ?_
 refine sT (i:=6) (N:=some 62) hHeld ?_
 refine sT (i:=13) (N:=some 69) hHeld ?_
 refine sT (i:=15) (N:=some 71) hHeld ?_
 refine sO (i:=7) (N:=some 63) fun K hK => ?_
 refine sG Try.func38 #[.pointer (some ⟨g,0,none⟩),.int .i64 ib] ?_
 refine (maker_reg g (.slice A0 l0.length c0) (.slice A1 l1.length c1) (.string a2) (.string a3) (.string a4) m pc (.int .i64 16) (.int .i64 ia) (.int .i64 ib) (.int .i64 ic) (.int .i64 id) (.string s5) (.string s6) (.string s7) (.slice A8 n8 c8) v ib X HS.out.hm.b).mono ?_
 rintro e w1 ⟨rfl,hb⟩
 refine ⟨_,rfl,?_⟩
 have y0:=sC hb z0
 have y1:=sC hb z1
 have y2:=sC hb z2
 have y3:=sC hb z3
 have HT1:=aq (HS.out.below hb)
 clear hb
 refine hK.out _ _ ⟨y0,y1,y2,y3⟩ (fun hHeld => ?_)
 clear hK K
 refine sN ?_
 refine sO (i:=14) (N:=some 70) fun K hK => ?_
 refine sG Try.func38 #[.pointer (some ⟨g,0,none⟩),.int .i64 ic] ?_
 refine (maker_reg g (.slice A0 l0.length c0) (.slice A1 l1.length c1) (.string a2) (.string a3) (.string a4) m pc (.int .i64 16) (.int .i64 ia) (.int .i64 ib) (.int .i64 ic) (.int .i64 id) (.string s5) (.string s6) (.string s7) (.slice A8 n8 c8) v ic w1 HT1.out.hm.b).mono ?_
 rintro e w2 ⟨rfl,hb⟩
 refine ⟨_,rfl,?_⟩
 have x0:=sC hb y0
 have x1:=sC hb y1
 have x2:=sC hb y2
 have x3:=sC hb y3
 have HT2:=aq (HT1.out.below hb)
 clear hb
 refine hK.out _ _ ⟨x0,x1,x2,x3⟩ (fun hHeld => ?_)
 clear hK K
 refine sN ?_
 refine sP (i:=16) (N:=some 72) ?_
 refine sX (i:=17) (N:=some 73) fun K hK => ?_
 refine sG Try.func61 #[.pointer (some ⟨g,0,none⟩),.agg (List.toArray ((kK 4 0 (qR 1 m ib (qR 1 m ic (sZ (fS r1 r2 (kS ⟨#[]⟩ (mZ [.slice none 0 0])))))))))] ?_
 refine (put_plain base g (.slice A0 l0.length c0) (.slice A1 l1.length c1) (.string a2) (.string a3) (.string a4) m pc (.int .i64 16) (.int .i64 ia) (.int .i64 ib) (.int .i64 ic) (.int .i64 id) (.string s5) (.string s6) (.string s7) (.slice A8 n8 c8) v l (⟨4,0,(⟨1,m,ib,z44,z46⟩ : S50),(⟨1,m,ic,z44,z46⟩ : S50),⟨z25,0,⟨#[]⟩⟩,(⟨r1,r2⟩ : S44),⟨#[]⟩,z25,noSl⟩ : CV) w2 HT2.out.hm (show (4 : Int) ≠ 1 by decide) (by have:=HL.out;(try simp only [List.length_append,List.length_cons,List.length_nil]);omega) HT2.out.hs).mono ?_
 rintro e w3 ⟨v3,rfl,hm3,hb3,hk3⟩
 refine ⟨_,rfl,?_⟩
 have HS3:=aq (HT2.out.put hm3 hb3 hk3)
 clear hm3 hb3 hk3
 refine hK.out _ _ ?_
 clear hK K
 refine sN ?_
 refine done_ (by kernel_rfl) ?_
 go_wp2_with fail
 try simp only [List.append_assoc,List.cons_append,List.nil_append] at HS3
 exact bodyPost_end (v:=.tuple #[]) (by simp [results,Try.results72,go_sem]) rfl (by first|exact ⟨_,[(⟨4,pc,(⟨1,m,ib,z44,z46⟩ : S50),(⟨1,m,ic,z44,z46⟩ : S50),⟨m,0,⟨#[]⟩⟩,(⟨r1,r2⟩ : S44),⟨#[]⟩,z25,noSl⟩ : CV)],rfl,HS3.out.hm,Nat.le_of_ble_eq_true rfl,(asked_cons rfl rfl (fun _ => ⟨rfl,by simp [usesR]⟩) (fun _ => ⟨rfl,by simp [usesR]⟩) asked_nil),HS3.out.hB,HS3.out.hK⟩|exact ⟨rfl,_,[(⟨4,pc,(⟨1,m,ib,z44,z46⟩ : S50),(⟨1,m,ic,z44,z46⟩ : S50),⟨m,0,⟨#[]⟩⟩,(⟨r1,r2⟩ : S44),⟨#[]⟩,z25,noSl⟩ : CV)],HS3.out.hm,Nat.le_of_ble_eq_true rfl,(asked_cons rfl rfl (fun _ => ⟨rfl,by simp [usesR]⟩) (fun _ => ⟨rfl,by simp [usesR]⟩) asked_nil),HS3.out.hB,HS3.out.hK⟩)
theorem mk_field17 (base g : Nat) (A0 : Option Addr) (c0 : Nat) (l0 : List S33) (A1 : Option Addr) (c1 : Nat) (l1 : List ByteArray) (a2 a3 a4 : ByteArray) (m : S25) (pc : Int) (ia ib ic id : Int) (s5 s6 s7 : ByteArray) (A8 : Option Addr) (n8 c8 : Nat) (ags : List Int) (v : Value) (l : List CV) (w : World) (hm : MkOwn w base g (.slice A0 l0.length c0) (.slice A1 l1.length c1) (.string a2) (.string a3) (.string a4) m pc (.int .i64 17) (.int .i64 ia) (.int .i64 ib) (.int .i64 ic) (.int .i64 id) (.string s5) (.string s6) (.string s7) (.slice A8 n8 c8) v l) (hl : l.length + 2 ≤ 1048576) (hbz : base ≤ w.heap.size) (hr0 : Kd.C k33 w A0 l0.length l0) (hc0 : l0.length ≤ c0) (hr1 : Kd.C Kd.string w A1 l1.length l1) (hc1 : l1.length ≤ c1) (r1 r2 : ByteArray) (ok : Bool) (hf : find_Field.f l0 l1 a2 a3 a4 s5 s6 = some (r1, r2, ok)) :
  Calls Try.prog 72 #[.pointer (some ⟨g,0,none⟩)] w fun e w' => ∃ v' ins,e = .returned (.tuple #[]) ∧ MkOwn w' base g (.slice A0 l0.length c0) (.slice A1 l1.length c1) (.string a2) (.string a3) (.string a4) m pc (.int .i64 17) (.int .i64 ia) (.int .i64 ib) (.int .i64 ic) (.int .i64 id) (.string s5) (.string s6) (.string s7) (.slice A8 n8 c8) v' (l ++ ins) ∧ ins.length ≤ 3 ∧ Asked m pc (⟨17,ia,ib,ic,id,s5,s6,s7,ags⟩ : S74) ins ok ∧ Below base w w' ∧ Kp w w' g v v':=by
 have HFD : Aside0 (∀ W,Below w.drew.heap.size w.drew W → Calls Try.prog 90 #[.agg (pG A0 l0 c0 A1 l1 c1 a2 a3 a4),.agg #[.string s5,.string s6]] W fun e w' => e = .returned (.tuple #[.agg #[.string r1,.string r2],.bool ok]) ∧ Below W.heap.size W w'):=⟨fun W hW => find_Field.calls A0 c0 l0 A1 c1 l1 a2 a3 a4 s5 s6 r1 r2 ok W (Kd.C_below hr0 ((below_drew1 (Below.refl _ _)).trans hW)) hc0 (Kd.C_below hr1 ((below_drew1 (Below.refl _ _)).trans hW)) hc1 hf⟩
 have HM0 : Aside0 (MkOwn w.drew base g (.slice A0 l0.length c0) (.slice A1 l1.length c1) (.string a2) (.string a3) (.string a4) m pc (.int .i64 17) (.int .i64 ia) (.int .i64 ib) (.int .i64 ic) (.int .i64 id) (.string s5) (.string s6) (.string s7) (.slice A8 n8 c8) v l):=⟨hm.below (below_drew1 (Below.refl _ _)) hbz⟩
 have HXB : Aside0 (Below w.heap.size w w.drew):=⟨below_drew1 (Below.refl _ _)⟩
 have HBc : Aside0 (Below w.drew.heap.size w.drew w.drew):=⟨Below.refl _ _⟩
 have HBz:=aq hbz
 have HL:=aq hl
 have z0 : w.drew.cell? ⟨g,0,none⟩ = some (.slice A0 l0.length c0):=blk_cell HM0.out.b 0
 have z1 : w.drew.cell? ⟨g,1,none⟩ = some (.slice A1 l1.length c1):=blk_cell HM0.out.b 1
 have z2 : w.drew.cell? ⟨g,2,none⟩ = some (.string a2):=blk_cell HM0.out.b 2
 have z3 : w.drew.cell? ⟨g,3,none⟩ = some (.string a3):=blk_cell HM0.out.b 3
 have z4 : w.drew.cell? ⟨g,4,none⟩ = some (.string a4):=blk_cell HM0.out.b 4
 have z5 : w.drew.cell? ⟨g,14,none⟩ = some (.string s5):=blk_cell HM0.out.b 14
 have z6 : w.drew.cell? ⟨g,15,none⟩ = some (.string s6):=blk_cell HM0.out.b 15
 clear hm hl hbz hr0 hr1 hf
 go_enter Try.func72,Try.ntmps72
 go_wp2_with fail
 refine start_ (n:=22) (S:=fun w' => w'.cell? ⟨g,0,none⟩ = some (.slice A0 l0.length c0) ∧ w'.cell? ⟨g,1,none⟩ = some (.slice A1 l1.length c1) ∧ w'.cell? ⟨g,2,none⟩ = some (.string a2) ∧ w'.cell? ⟨g,3,none⟩ = some (.string a3) ∧ w'.cell? ⟨g,4,none⟩ = some (.string a4) ∧ w'.cell? ⟨g,14,none⟩ = some (.string s5) ∧ w'.cell? ⟨g,15,none⟩ = some (.string s6)) (ds:=[20]) (Array.replicate 22 false) (by kernel_rfl) rfl rfl ⟨z0,z1,z2,z3,z4,z5,z6⟩ (fun hHeld => ?_)
 generalize w.drew = X at HM0 HFD HBc HXB z0 z1 z2 z3 z4 z5 z6 hHeld ⊢
 refine sP (i:=0) (N:=some 5) ?_
 refine sP (i:=1) (N:=some 6) ?_
 refine sP (i:=2) (N:=some 7) ?_
 refine sP (i:=4) (N:=some 9) ?_
 refine sP (i:=5) (N:=some 10) ?_
 refine sP (i:=6) (N:=some 11) ?_
 refine sP (i:=7) (N:=some 12) ?_
 refine sP (i:=9) (N:=some 14) ?_
 refine sP (i:=10) (N:=some 15) ?_
 refine sP (i:=11) (N:=some 16) ?_
 refine sP (i:=12) (N:=some 17) ?_
 refine sT (i:=3) (N:=some 8) hHeld ?_
 refine sT (i:=8) (N:=some 13) hHeld ?_
 refine sT (i:=13) (N:=some 18) hHeld ?_
 refine sP (i:=14) (N:=some 19) ?_
 refine join_ (σ:=Nat) 2 #[true,true,true,true,true,true,true,true,true,true,true,true,true,true,true,true,true,true,true,true,false,false] (fun s => [(20,.tuple #[.agg #[.string r1,.string r2],.bool ok]),(4,.tuple #[.agg #[.string r1,.string r2],.bool ok]),(21,.agg #[.string r1,.string r2]),(22,.bool ok),(2,.pointer (some ⟨s,0,none⟩))]) (fun s w' => w'.heap[s]? = some (Obj.cells #[.string ⟨#[]⟩,.string ⟨#[]⟩] 44 (0,0)) ∧ Below X.heap.size X w' ∧ X.heap.size ≤ s) ?_ ?_
 rotate_left
 ·
  intro hCont
  refine sW (i:=15) (j:=19) (Ni:=some 20) (Nj:=some 2) (fun K hK => ?_) fun K hK => ?_
  ·
   skip
   refine sG Try.func90 #[.agg (pG A0 l0 c0 A1 l1 c1 a2 a3 a4),.agg #[.string s5,.string s6]] ?_
   refine (HFD.out X HBc.out).mono ?_
   rintro e w4 ⟨rfl,hb⟩
   refine ⟨_,rfl,?_⟩
   replace HBc:=aq (HBc.out.trans (hb.mono HBc.out.size))
   clear hb
   refine hK.out _ _ ⟨(sC HBc.out z0),(sC HBc.out z1),(sC HBc.out z2),(sC HBc.out z3),(sC HBc.out z4),(sC HBc.out z5),(sC HBc.out z6)⟩ (fun hHeld => ?_)
   clear hK K
   refine sN ?_
   refine sP (i:=16) (N:=some 4) ?_
   refine sP (i:=17) (N:=some 21) ?_
   refine sP (i:=18) (N:=some 22) ?_
   refine sO (i:=19) (N:=some 2) fun K hK => ?_
   refine value_ (w1:=?_) (v:=?_) (by rfl) rfl ?_ ?_
   rotate_left 2
   ·
    go_simp
    constructor
    ·
     rfl
    ·
     rfl
   have HG : Aside0 (X.heap.size ≤ w4.heap.size):=⟨HBc.out.size⟩
   have hb : Below w4.heap.size w4 (w4.alloc (Obj.cells #[.string ⟨#[]⟩,.string ⟨#[]⟩] 44)):=below_alloc (Below.refl _ _) _
   replace HBc:=aq (HBc.out.trans (hb.mono HBc.out.size))
   have HF:=aq (World.alloc_heap_new w4 (Obj.cells #[.string ⟨#[]⟩,.string ⟨#[]⟩] 44))
   clear hb
   refine hK.out _ _ ⟨(sC HBc.out z0),(sC HBc.out z1),(sC HBc.out z2),(sC HBc.out z3),(sC HBc.out z4),(sC HBc.out z5),(sC HBc.out z6)⟩ (fun hHeld => ?_)
   clear hK K
   refine sN ?_
   exact norm_ (by simp only [putAll,Act.put,List.setIfInBounds_toArray,List.set_cons_zero,List.set_cons_succ]) (hCont w4.heap.size _ ⟨HF.out,HBc.out,HG.out⟩)
  ·
   skip
   refine value_ (w1:=?_) (v:=?_) (by rfl) rfl ?_ ?_
   rotate_left 2
   ·
    go_simp
    constructor
    ·
     rfl
    ·
     rfl
   have HG : Aside0 (X.heap.size ≤ X.heap.size):=⟨HBc.out.size⟩
   have hb : Below X.heap.size X (X.alloc (Obj.cells #[.string ⟨#[]⟩,.string ⟨#[]⟩] 44)):=below_alloc (Below.refl _ _) _
   replace HBc:=aq (HBc.out.trans (hb.mono HBc.out.size))
   have HF:=aq (World.alloc_heap_new X (Obj.cells #[.string ⟨#[]⟩,.string ⟨#[]⟩] 44))
   clear hb
   refine hK.out _ _ ⟨(sC HBc.out z0),(sC HBc.out z1),(sC HBc.out z2),(sC HBc.out z3),(sC HBc.out z4),(sC HBc.out z5),(sC HBc.out z6)⟩ (fun hHeld => ?_)
   clear hK K
   refine sN ?_
   refine sO (i:=15) (N:=some 20) fun K hK => ?_
   refine sG Try.func90 #[.agg (pG A0 l0 c0 A1 l1 c1 a2 a3 a4),.agg #[.string s5,.string s6]] ?_
   refine (HFD.out (X.alloc (Obj.cells #[.string ⟨#[]⟩,.string ⟨#[]⟩] 44)) HBc.out).mono ?_
   rintro e w4 ⟨rfl,hb⟩
   refine ⟨_,rfl,?_⟩
   replace HF:=aq (blk_below HF.out hb)
   replace HBc:=aq (HBc.out.trans (hb.mono HBc.out.size))
   clear hb
   refine hK.out _ _ ⟨(sC HBc.out z0),(sC HBc.out z1),(sC HBc.out z2),(sC HBc.out z3),(sC HBc.out z4),(sC HBc.out z5),(sC HBc.out z6)⟩ (fun hHeld => ?_)
   clear hK K
   refine sN ?_
   refine sP (i:=16) (N:=some 4) ?_
   refine sP (i:=17) (N:=some 21) ?_
   refine sP (i:=18) (N:=some 22) ?_
   exact norm_ (by simp only [putAll,Act.put,List.setIfInBounds_toArray,List.set_cons_zero,List.set_cons_succ]) (hCont X.heap.size _ ⟨HF.out,HBc.out,HG.out⟩)
 rintro n w7 ⟨hf,hb,hg⟩
 replace HBc:=aq hb
 have hHeld : w7.cell? ⟨g,0,none⟩ = some (.slice A0 l0.length c0) ∧ w7.cell? ⟨g,1,none⟩ = some (.slice A1 l1.length c1) ∧ w7.cell? ⟨g,2,none⟩ = some (.string a2) ∧ w7.cell? ⟨g,3,none⟩ = some (.string a3) ∧ w7.cell? ⟨g,4,none⟩ = some (.string a4) ∧ w7.cell? ⟨g,14,none⟩ = some (.string s5) ∧ w7.cell? ⟨g,15,none⟩ = some (.string s6):=⟨(sC HBc.out z0),(sC HBc.out z1),(sC HBc.out z2),(sC HBc.out z3),(sC HBc.out z4),(sC HBc.out z5),(sC HBc.out z6)⟩
 have HF:=aq hf
 have HG:=aq hg
 clear hf hb hg
 obtain ⟨e0,e1⟩:=cells2f HF.out
 have ef:=blk_frozen HF.out
 refine norm_ (a':=?_) ?_ ?_
 rotate_left
 ·
  simp only [putAll,Act.put,List.setIfInBounds_toArray,List.set_cons_zero,List.set_cons_succ]
  rfl
 refine sX (i:=20) (N:=none) fun K hK => ?_
 refine skip_ (w1:=?_) (by rfl) rfl ?_ ?_
 rotate_left
 ·
  go_simp
  rfl
 have hz8:=set2_own HF.out (.string r1) (.string r2)
 have hb8:=(HBc.out.setCell (p:=⟨n,0,none⟩) HG.out (.string r1)).setCell (p:=⟨n,1,none⟩) HG.out (.string r2)
 generalize ((w7.setCell ⟨n,0,none⟩ (.string r1)).setCell ⟨n,1,none⟩ (.string r2)) = w8 at hz8 hb8 ⊢
 have HZ8:=aq hz8
 have HB8:=aq hb8
 clear hz8 hb8 e0 e1 ef
 refine hK.out _ _ ?_
 clear hK K
 refine sP (i:=21) (N:=some 3) ?_
 refine done_ (by kernel_rfl) ?_
 have HS8 : Aside0 (IvS w w8 base g (.slice A0 l0.length c0) (.slice A1 l1.length c1) (.string a2) (.string a3) (.string a4) m pc (.int .i64 17) (.int .i64 ia) (.int .i64 ib) (.int .i64 ic) (.int .i64 id) (.string s5) (.string s6) (.string s7) (.slice A8 n8 c8) v v l n #[.string r1,.string r2] 44):=⟨IvS.inner HM0.out HXB.out HBz.out HB8.out HZ8.out HG.out⟩
 clear hHeld z0 z1 z2 z3 z4 z5 z6 HM0 HBc HXB HF HB8 HZ8 HG HFD
 cases ok
 ·
  go_wp2_with fail
  exact bodyPost_ret (v:=.tuple #[]) (by simp [results,Try.results72,go_sem]) rfl (by first|exact ⟨_,[],rfl,(by rw [List.append_nil];exact HS8.out.hm),Nat.le_of_ble_eq_true rfl,asked_nil,HS8.out.hB,HS8.out.hK⟩|exact ⟨rfl,_,[],(by rw [List.append_nil];exact HS8.out.hm),Nat.le_of_ble_eq_true rfl,asked_nil,HS8.out.hB,HS8.out.hK⟩)
 have k9 : w8.cell? ⟨g,9,none⟩ = some (.int .i64 17):=blk_cell HS8.out.hm.b 9
 have f0 : w8.cell? ⟨n,0,none⟩ = some (.string r1):=blk_cell HS8.out.hz 0
 have f1 : w8.cell? ⟨n,1,none⟩ = some (.string r2):=blk_cell HS8.out.hz 1
 go_wp2_with fail
 clear k9
 refine (maker_begins base g (.slice A0 l0.length c0) (.slice A1 l1.length c1) (.string a2) (.string a3) (.string a4) m pc (.int .i64 17) (.int .i64 ia) (.int .i64 ib) (.int .i64 ic) (.int .i64 id) (.string s5) (.string s6) (.string s7) (.slice A8 n8 c8) v (l) r1 w8 HS8.out.hm (by have:=HL.out;(try simp only [List.length_append,List.length_cons,List.length_nil]);omega) HS8.out.hs).mono ?_
 rintro e w9 ⟨v1,rfl,hm,hb,hk⟩
 have HS9:=aq (HS8.out.put hm hb hk)
 clear hm hb hk
 clear f0 f1
 have f0 : w9.cell? ⟨n,0,none⟩ = some (.string r1):=blk_cell HS9.out.hz 0
 have f1 : w9.cell? ⟨n,1,none⟩ = some (.string r2):=blk_cell HS9.out.hz 1
 go_wp2_with fail
 refine (put_plain base g (.slice A0 l0.length c0) (.slice A1 l1.length c1) (.string a2) (.string a3) (.string a4) m pc (.int .i64 17) (.int .i64 ia) (.int .i64 ib) (.int .i64 ic) (.int .i64 id) (.string s5) (.string s6) (.string s7) (.slice A8 n8 c8) v1 (l ++ [(⟨7,pc,z50,z50,⟨m,0,⟨#[]⟩⟩,z44,r1,z25,noSl⟩ : CV)]) (⟨8,0,z50,z50,⟨z25,0,⟨#[]⟩⟩,(⟨r1,r2⟩ : S44),⟨#[]⟩,z25,noSl⟩ : CV) w9 HS9.out.hm (show (8 : Int) ≠ 1 by decide) (by have:=HL.out;(try simp only [List.length_append,List.length_cons,List.length_nil]);omega) HS9.out.hs).mono ?_
 rintro e w10 ⟨v2,rfl,hm,hb,hk⟩
 have HS10:=aq (HS9.out.put hm hb hk)
 clear hm hb hk
 clear f0 f1
 have HS : Aside0 (IvS w w10.drew base g (.slice A0 l0.length c0) (.slice A1 l1.length c1) (.string a2) (.string a3) (.string a4) m pc (.int .i64 17) (.int .i64 ia) (.int .i64 ib) (.int .i64 ic) (.int .i64 id) (.string s5) (.string s6) (.string s7) (.slice A8 n8 c8) v v2 (l ++ [(⟨7,pc,z50,z50,⟨m,0,⟨#[]⟩⟩,z44,r1,z25,noSl⟩ : CV)] ++ [(⟨8,pc,z50,z50,⟨m,0,⟨#[]⟩⟩,(⟨r1,r2⟩ : S44),⟨#[]⟩,z25,noSl⟩ : CV)]) n #[.string r1,.string r2] 44):=⟨HS10.out.below (below_drew1 (Below.refl _ _))⟩
 have z0 : w10.drew.cell? ⟨g,10,none⟩ = some (.int .i64 ia):=blk_cell HS.out.hm.b 10
 have z1 : w10.drew.cell? ⟨n,0,none⟩ = some (.string r1):=blk_cell HS.out.hz 0
 have z2 : w10.drew.cell? ⟨n,1,none⟩ = some (.string r2):=blk_cell HS.out.hz 1
 go_wp2_with fail
 refine start_ (n:=11) (S:=fun w' => w'.cell? ⟨g,10,none⟩ = some (.int .i64 ia) ∧ w'.cell? ⟨n,0,none⟩ = some (.string r1) ∧ w'.cell? ⟨n,1,none⟩ = some (.string r2)) (ds:=[10]) (Array.replicate 11 false) (by kernel_rfl) rfl rfl ⟨z0,z1,z2⟩ (fun hHeld => ?_)
 generalize w10.drew = X at HS z0 z1 z2 hHeld ⊢
 refine sP (i:=0) (N:=some 84) ?_
 refine sP (i:=1) (N:=some 85) ?_
 refine sP (i:=2) (N:=some 86) ?_
 refine sP (i:=3) (N:=some 87) ?_
 refine sP (i:=4) (N:=some 88) ?_
 refine sP (i:=5) (N:=some 89) ?_
 refine sT (i:=6) (N:=some 90) hHeld ?_
 refine sT (i:=8) (N:=some 92) hHeld ?_
 refine sO (i:=7) (N:=some 91) fun K hK => ?_
 refine sG Try.func38 #[.pointer (some ⟨g,0,none⟩),.int .i64 ia] ?_
 refine (maker_reg g (.slice A0 l0.length c0) (.slice A1 l1.length c1) (.string a2) (.string a3) (.string a4) m pc (.int .i64 17) (.int .i64 ia) (.int .i64 ib) (.int .i64 ic) (.int .i64 id) (.string s5) (.string s6) (.string s7) (.slice A8 n8 c8) v2 ia X HS.out.hm.b).mono ?_
 rintro e w1 ⟨rfl,hb⟩
 refine ⟨_,rfl,?_⟩
 have y0:=sC hb z0
 have y1:=sC hb z1
 have y2:=sC hb z2
 have HT1:=aq (HS.out.below hb)
 clear hb
 refine hK.out _ _ ⟨y0,y1,y2⟩ (fun hHeld => ?_)
 clear hK K
 refine sN ?_
 refine sO (i:=9) (N:=some 93) fun K hK => ?_
 refine sG Try.func17 #[.agg #[.string r1,.string r2]] ?_
 refine (Q43.gen_Static.calls r1 r2 3 ⟨#[]⟩ ⟨#[]⟩ ⟨#[]⟩ 0 r1 r2 ⟨#[]⟩ ⟨#[]⟩ ⟨#[]⟩ 0 ⟨#[]⟩ w1 rfl).mono ?_
 rintro e w2 ⟨rfl,hb⟩
 refine ⟨_,rfl,?_⟩
 have x0:=sC hb y0
 have x1:=sC hb y1
 have x2:=sC hb y2
 have HT2:=aq (HT1.out.below hb)
 clear hb
 refine hK.out _ _ ⟨x0,x1,x2⟩ (fun hHeld => ?_)
 clear hK K
 refine sN ?_
 refine sX (i:=10) (N:=some 94) fun K hK => ?_
 refine sG Try.func37 #[.pointer (some ⟨g,0,none⟩),.agg (List.toArray (qR 1 m ia [])),.agg #[.int .i64 3,.string ⟨#[]⟩,.string ⟨#[]⟩,.string ⟨#[]⟩,.int .i64 0,.string r1,.string r2,.string ⟨#[]⟩,.string ⟨#[]⟩,.string ⟨#[]⟩,.int .i64 0,.string ⟨#[]⟩],.string ⟨#[]⟩] ?_
 refine (maker_flows base g (.slice A0 l0.length c0) (.slice A1 l1.length c1) (.string a2) (.string a3) (.string a4) m pc (.int .i64 17) (.int .i64 ia) (.int .i64 ib) (.int .i64 ic) (.int .i64 id) (.string s5) (.string s6) (.string s7) (.slice A8 n8 c8) v2 (l ++ [(⟨7,pc,z50,z50,⟨m,0,⟨#[]⟩⟩,z44,r1,z25,noSl⟩ : CV)] ++ [(⟨8,pc,z50,z50,⟨m,0,⟨#[]⟩⟩,(⟨r1,r2⟩ : S44),⟨#[]⟩,z25,noSl⟩ : CV)]) (⟨1,m,ia,z44,z46⟩ : S50) (⟨3,z25,0,(⟨r1,r2⟩ : S44),z46⟩ : S50) ⟨#[]⟩ w2 HT2.out.hm (by have:=HL.out;(try simp only [List.length_append,List.length_cons,List.length_nil]);omega) HT2.out.hs).mono ?_
 rintro e w3 ⟨v3,rfl,hm3,hb3,hk3⟩
 refine ⟨_,rfl,?_⟩
 have HS3:=aq (HT2.out.put hm3 hb3 hk3)
 clear hm3 hb3 hk3
 refine hK.out _ _ ?_
 clear hK K
 refine sN ?_
 refine done_ (by kernel_rfl) ?_
 go_wp2_with fail
 try simp only [List.append_assoc,List.cons_append,List.nil_append] at HS3
 exact bodyPost_end (v:=.tuple #[]) (by simp [results,Try.results72,go_sem]) rfl (by first|exact ⟨_,[(⟨7,pc,z50,z50,⟨m,0,⟨#[]⟩⟩,z44,r1,z25,noSl⟩ : CV),(⟨8,pc,z50,z50,⟨m,0,⟨#[]⟩⟩,(⟨r1,r2⟩ : S44),⟨#[]⟩,z25,noSl⟩ : CV),(⟨2,pc,(⟨1,m,ia,z44,z46⟩ : S50),(⟨3,z25,0,(⟨r1,r2⟩ : S44),z46⟩ : S50),⟨m,0,⟨#[]⟩⟩,z44,⟨#[]⟩,z25,noSl⟩ : CV)],rfl,HS3.out.hm,Nat.le_of_ble_eq_true rfl,(asked_cons rfl rfl (fun h => absurd (show (0 : Int) = 1 from h) (by decide)) (fun h => absurd (show (0 : Int) = 1 from h) (by decide)) (asked_cons rfl rfl (fun h => absurd (show (0 : Int) = 1 from h) (by decide)) (fun h => absurd (show (0 : Int) = 1 from h) (by decide)) (asked_set rfl rfl rfl (by simp [usesR]) (fun h => absurd (show (3 : Int) = 1 from h) (by decide)) asked_nil))),HS3.out.hB,HS3.out.hK⟩|exact ⟨rfl,_,[(⟨7,pc,z50,z50,⟨m,0,⟨#[]⟩⟩,z44,r1,z25,noSl⟩ : CV),(⟨8,pc,z50,z50,⟨m,0,⟨#[]⟩⟩,(⟨r1,r2⟩ : S44),⟨#[]⟩,z25,noSl⟩ : CV),(⟨2,pc,(⟨1,m,ia,z44,z46⟩ : S50),(⟨3,z25,0,(⟨r1,r2⟩ : S44),z46⟩ : S50),⟨m,0,⟨#[]⟩⟩,z44,⟨#[]⟩,z25,noSl⟩ : CV)],HS3.out.hm,Nat.le_of_ble_eq_true rfl,(asked_cons rfl rfl (fun h => absurd (show (0 : Int) = 1 from h) (by decide)) (fun h => absurd (show (0 : Int) = 1 from h) (by decide)) (asked_cons rfl rfl (fun h => absurd (show (0 : Int) = 1 from h) (by decide)) (fun h => absurd (show (0 : Int) = 1 from h) (by decide)) (asked_set rfl rfl rfl (by simp [usesR]) (fun h => absurd (show (3 : Int) = 1 from h) (by decide)) asked_nil))),HS3.out.hB,HS3.out.hK⟩)
theorem mk_field18 (base g : Nat) (A0 : Option Addr) (c0 : Nat) (l0 : List S33) (A1 : Option Addr) (c1 : Nat) (l1 : List ByteArray) (a2 a3 a4 : ByteArray) (m : S25) (pc : Int) (ia ib ic id : Int) (s5 s6 s7 : ByteArray) (A8 : Option Addr) (n8 c8 : Nat) (ags : List Int) (v : Value) (l : List CV) (w : World) (hm : MkOwn w base g (.slice A0 l0.length c0) (.slice A1 l1.length c1) (.string a2) (.string a3) (.string a4) m pc (.int .i64 18) (.int .i64 ia) (.int .i64 ib) (.int .i64 ic) (.int .i64 id) (.string s5) (.string s6) (.string s7) (.slice A8 n8 c8) v l) (hl : l.length + 2 ≤ 1048576) (hbz : base ≤ w.heap.size) (hr0 : Kd.C k33 w A0 l0.length l0) (hc0 : l0.length ≤ c0) (hr1 : Kd.C Kd.string w A1 l1.length l1) (hc1 : l1.length ≤ c1) (r1 r2 : ByteArray) (ok : Bool) (hf : find_Field.f l0 l1 a2 a3 a4 s5 s6 = some (r1, r2, ok)) :
  Calls Try.prog 72 #[.pointer (some ⟨g,0,none⟩)] w fun e w' => ∃ v' ins,e = .returned (.tuple #[]) ∧ MkOwn w' base g (.slice A0 l0.length c0) (.slice A1 l1.length c1) (.string a2) (.string a3) (.string a4) m pc (.int .i64 18) (.int .i64 ia) (.int .i64 ib) (.int .i64 ic) (.int .i64 id) (.string s5) (.string s6) (.string s7) (.slice A8 n8 c8) v' (l ++ ins) ∧ ins.length ≤ 3 ∧ Asked m pc (⟨18,ia,ib,ic,id,s5,s6,s7,ags⟩ : S74) ins false ∧ Below base w w' ∧ Kp w w' g v v':=by
 have HFD : Aside0 (∀ W,Below w.drew.heap.size w.drew W → Calls Try.prog 90 #[.agg (pG A0 l0 c0 A1 l1 c1 a2 a3 a4),.agg #[.string s5,.string s6]] W fun e w' => e = .returned (.tuple #[.agg #[.string r1,.string r2],.bool ok]) ∧ Below W.heap.size W w'):=⟨fun W hW => find_Field.calls A0 c0 l0 A1 c1 l1 a2 a3 a4 s5 s6 r1 r2 ok W (Kd.C_below hr0 ((below_drew1 (Below.refl _ _)).trans hW)) hc0 (Kd.C_below hr1 ((below_drew1 (Below.refl _ _)).trans hW)) hc1 hf⟩
 have HM0 : Aside0 (MkOwn w.drew base g (.slice A0 l0.length c0) (.slice A1 l1.length c1) (.string a2) (.string a3) (.string a4) m pc (.int .i64 18) (.int .i64 ia) (.int .i64 ib) (.int .i64 ic) (.int .i64 id) (.string s5) (.string s6) (.string s7) (.slice A8 n8 c8) v l):=⟨hm.below (below_drew1 (Below.refl _ _)) hbz⟩
 have HXB : Aside0 (Below w.heap.size w w.drew):=⟨below_drew1 (Below.refl _ _)⟩
 have HBc : Aside0 (Below w.drew.heap.size w.drew w.drew):=⟨Below.refl _ _⟩
 have HBz:=aq hbz
 have HL:=aq hl
 have z0 : w.drew.cell? ⟨g,0,none⟩ = some (.slice A0 l0.length c0):=blk_cell HM0.out.b 0
 have z1 : w.drew.cell? ⟨g,1,none⟩ = some (.slice A1 l1.length c1):=blk_cell HM0.out.b 1
 have z2 : w.drew.cell? ⟨g,2,none⟩ = some (.string a2):=blk_cell HM0.out.b 2
 have z3 : w.drew.cell? ⟨g,3,none⟩ = some (.string a3):=blk_cell HM0.out.b 3
 have z4 : w.drew.cell? ⟨g,4,none⟩ = some (.string a4):=blk_cell HM0.out.b 4
 have z5 : w.drew.cell? ⟨g,14,none⟩ = some (.string s5):=blk_cell HM0.out.b 14
 have z6 : w.drew.cell? ⟨g,15,none⟩ = some (.string s6):=blk_cell HM0.out.b 15
 clear hm hl hbz hr0 hr1 hf
 go_enter Try.func72,Try.ntmps72
 go_wp2_with fail
 refine start_ (n:=22) (S:=fun w' => w'.cell? ⟨g,0,none⟩ = some (.slice A0 l0.length c0) ∧ w'.cell? ⟨g,1,none⟩ = some (.slice A1 l1.length c1) ∧ w'.cell? ⟨g,2,none⟩ = some (.string a2) ∧ w'.cell? ⟨g,3,none⟩ = some (.string a3) ∧ w'.cell? ⟨g,4,none⟩ = some (.string a4) ∧ w'.cell? ⟨g,14,none⟩ = some (.string s5) ∧ w'.cell? ⟨g,15,none⟩ = some (.string s6)) (ds:=[20]) (Array.replicate 22 false) (by kernel_rfl) rfl rfl ⟨z0,z1,z2,z3,z4,z5,z6⟩ (fun hHeld => ?_)
 generalize w.drew = X at HM0 HFD HBc HXB z0 z1 z2 z3 z4 z5 z6 hHeld ⊢
 refine sP (i:=0) (N:=some 5) ?_
 refine sP (i:=1) (N:=some 6) ?_
 refine sP (i:=2) (N:=some 7) ?_
 refine sP (i:=4) (N:=some 9) ?_
 refine sP (i:=5) (N:=some 10) ?_
 refine sP (i:=6) (N:=some 11) ?_
 refine sP (i:=7) (N:=some 12) ?_
 refine sP (i:=9) (N:=some 14) ?_
 refine sP (i:=10) (N:=some 15) ?_
 refine sP (i:=11) (N:=some 16) ?_
 refine sP (i:=12) (N:=some 17) ?_
 refine sT (i:=3) (N:=some 8) hHeld ?_
 refine sT (i:=8) (N:=some 13) hHeld ?_
 refine sT (i:=13) (N:=some 18) hHeld ?_
 refine sP (i:=14) (N:=some 19) ?_
 refine join_ (σ:=Nat) 2 #[true,true,true,true,true,true,true,true,true,true,true,true,true,true,true,true,true,true,true,true,false,false] (fun s => [(20,.tuple #[.agg #[.string r1,.string r2],.bool ok]),(4,.tuple #[.agg #[.string r1,.string r2],.bool ok]),(21,.agg #[.string r1,.string r2]),(22,.bool ok),(2,.pointer (some ⟨s,0,none⟩))]) (fun s w' => w'.heap[s]? = some (Obj.cells #[.string ⟨#[]⟩,.string ⟨#[]⟩] 44 (0,0)) ∧ Below X.heap.size X w' ∧ X.heap.size ≤ s) ?_ ?_
 rotate_left
 ·
  intro hCont
  refine sW (i:=15) (j:=19) (Ni:=some 20) (Nj:=some 2) (fun K hK => ?_) fun K hK => ?_
  ·
   skip
   refine sG Try.func90 #[.agg (pG A0 l0 c0 A1 l1 c1 a2 a3 a4),.agg #[.string s5,.string s6]] ?_
   refine (HFD.out X HBc.out).mono ?_
   rintro e w4 ⟨rfl,hb⟩
   refine ⟨_,rfl,?_⟩
   replace HBc:=aq (HBc.out.trans (hb.mono HBc.out.size))
   clear hb
   refine hK.out _ _ ⟨(sC HBc.out z0),(sC HBc.out z1),(sC HBc.out z2),(sC HBc.out z3),(sC HBc.out z4),(sC HBc.out z5),(sC HBc.out z6)⟩ (fun hHeld => ?_)
   clear hK K
   refine sN ?_
   refine sP (i:=16) (N:=some 4) ?_
   refine sP (i:=17) (N:=some 21) ?_
   refine sP (i:=18) (N:=some 22) ?_
   refine sO (i:=19) (N:=some 2) fun K hK => ?_
   refine value_ (w1:=?_) (v:=?_) (by rfl) rfl ?_ ?_
   rotate_left 2
   ·
    go_simp
    constructor
    ·
     rfl
    ·
     rfl
   have HG : Aside0 (X.heap.size ≤ w4.heap.size):=⟨HBc.out.size⟩
   have hb : Below w4.heap.size w4 (w4.alloc (Obj.cells #[.string ⟨#[]⟩,.string ⟨#[]⟩] 44)):=below_alloc (Below.refl _ _) _
   replace HBc:=aq (HBc.out.trans (hb.mono HBc.out.size))
   have HF:=aq (World.alloc_heap_new w4 (Obj.cells #[.string ⟨#[]⟩,.string ⟨#[]⟩] 44))
   clear hb
   refine hK.out _ _ ⟨(sC HBc.out z0),(sC HBc.out z1),(sC HBc.out z2),(sC HBc.out z3),(sC HBc.out z4),(sC HBc.out z5),(sC HBc.out z6)⟩ (fun hHeld => ?_)
   clear hK K
   refine sN ?_
   exact norm_ (by simp only [putAll,Act.put,List.setIfInBounds_toArray,List.set_cons_zero,List.set_cons_succ]) (hCont w4.heap.size _ ⟨HF.out,HBc.out,HG.out⟩)
  ·
   skip
   refine value_ (w1:=?_) (v:=?_) (by rfl) rfl ?_ ?_
   rotate_left 2
   ·
    go_simp
    constructor
    ·
     rfl
    ·
     rfl
   have HG : Aside0 (X.heap.size ≤ X.heap.size):=⟨HBc.out.size⟩
   have hb : Below X.heap.size X (X.alloc (Obj.cells #[.string ⟨#[]⟩,.string ⟨#[]⟩] 44)):=below_alloc (Below.refl _ _) _
   replace HBc:=aq (HBc.out.trans (hb.mono HBc.out.size))
   have HF:=aq (World.alloc_heap_new X (Obj.cells #[.string ⟨#[]⟩,.string ⟨#[]⟩] 44))
   clear hb
   refine hK.out _ _ ⟨(sC HBc.out z0),(sC HBc.out z1),(sC HBc.out z2),(sC HBc.out z3),(sC HBc.out z4),(sC HBc.out z5),(sC HBc.out z6)⟩ (fun hHeld => ?_)
   clear hK K
   refine sN ?_
   refine sO (i:=15) (N:=some 20) fun K hK => ?_
   refine sG Try.func90 #[.agg (pG A0 l0 c0 A1 l1 c1 a2 a3 a4),.agg #[.string s5,.string s6]] ?_
   refine (HFD.out (X.alloc (Obj.cells #[.string ⟨#[]⟩,.string ⟨#[]⟩] 44)) HBc.out).mono ?_
   rintro e w4 ⟨rfl,hb⟩
   refine ⟨_,rfl,?_⟩
   replace HF:=aq (blk_below HF.out hb)
   replace HBc:=aq (HBc.out.trans (hb.mono HBc.out.size))
   clear hb
   refine hK.out _ _ ⟨(sC HBc.out z0),(sC HBc.out z1),(sC HBc.out z2),(sC HBc.out z3),(sC HBc.out z4),(sC HBc.out z5),(sC HBc.out z6)⟩ (fun hHeld => ?_)
   clear hK K
   refine sN ?_
   refine sP (i:=16) (N:=some 4) ?_
   refine sP (i:=17) (N:=some 21) ?_
   refine sP (i:=18) (N:=some 22) ?_
   exact norm_ (by simp only [putAll,Act.put,List.setIfInBounds_toArray,List.set_cons_zero,List.set_cons_succ]) (hCont X.heap.size _ ⟨HF.out,HBc.out,HG.out⟩)
 rintro n w7 ⟨hf,hb,hg⟩
 replace HBc:=aq hb
 have hHeld : w7.cell? ⟨g,0,none⟩ = some (.slice A0 l0.length c0) ∧ w7.cell? ⟨g,1,none⟩ = some (.slice A1 l1.length c1) ∧ w7.cell? ⟨g,2,none⟩ = some (.string a2) ∧ w7.cell? ⟨g,3,none⟩ = some (.string a3) ∧ w7.cell? ⟨g,4,none⟩ = some (.string a4) ∧ w7.cell? ⟨g,14,none⟩ = some (.string s5) ∧ w7.cell? ⟨g,15,none⟩ = some (.string s6):=⟨(sC HBc.out z0),(sC HBc.out z1),(sC HBc.out z2),(sC HBc.out z3),(sC HBc.out z4),(sC HBc.out z5),(sC HBc.out z6)⟩
 have HF:=aq hf
 have HG:=aq hg
 clear hf hb hg
 obtain ⟨e0,e1⟩:=cells2f HF.out
 have ef:=blk_frozen HF.out
 refine norm_ (a':=?_) ?_ ?_
 rotate_left
 ·
  simp only [putAll,Act.put,List.setIfInBounds_toArray,List.set_cons_zero,List.set_cons_succ]
  rfl
 refine sX (i:=20) (N:=none) fun K hK => ?_
 refine skip_ (w1:=?_) (by rfl) rfl ?_ ?_
 rotate_left
 ·
  go_simp
  rfl
 have hz8:=set2_own HF.out (.string r1) (.string r2)
 have hb8:=(HBc.out.setCell (p:=⟨n,0,none⟩) HG.out (.string r1)).setCell (p:=⟨n,1,none⟩) HG.out (.string r2)
 generalize ((w7.setCell ⟨n,0,none⟩ (.string r1)).setCell ⟨n,1,none⟩ (.string r2)) = w8 at hz8 hb8 ⊢
 have HZ8:=aq hz8
 have HB8:=aq hb8
 clear hz8 hb8 e0 e1 ef
 refine hK.out _ _ ?_
 clear hK K
 refine sP (i:=21) (N:=some 3) ?_
 refine done_ (by kernel_rfl) ?_
 have HS8 : Aside0 (IvS w w8 base g (.slice A0 l0.length c0) (.slice A1 l1.length c1) (.string a2) (.string a3) (.string a4) m pc (.int .i64 18) (.int .i64 ia) (.int .i64 ib) (.int .i64 ic) (.int .i64 id) (.string s5) (.string s6) (.string s7) (.slice A8 n8 c8) v v l n #[.string r1,.string r2] 44):=⟨IvS.inner HM0.out HXB.out HBz.out HB8.out HZ8.out HG.out⟩
 clear hHeld z0 z1 z2 z3 z4 z5 z6 HM0 HBc HXB HF HB8 HZ8 HG HFD
 cases ok
 ·
  go_wp2_with fail
  exact bodyPost_ret (v:=.tuple #[]) (by simp [results,Try.results72,go_sem]) rfl (by first|exact ⟨_,[],rfl,(by rw [List.append_nil];exact HS8.out.hm),Nat.le_of_ble_eq_true rfl,asked_nil,HS8.out.hB,HS8.out.hK⟩|exact ⟨rfl,_,[],(by rw [List.append_nil];exact HS8.out.hm),Nat.le_of_ble_eq_true rfl,asked_nil,HS8.out.hB,HS8.out.hK⟩)
 have k9 : w8.cell? ⟨g,9,none⟩ = some (.int .i64 18):=blk_cell HS8.out.hm.b 9
 have f0 : w8.cell? ⟨n,0,none⟩ = some (.string r1):=blk_cell HS8.out.hz 0
 have f1 : w8.cell? ⟨n,1,none⟩ = some (.string r2):=blk_cell HS8.out.hz 1
 go_wp2_with fail
 clear k9
 refine (maker_begins base g (.slice A0 l0.length c0) (.slice A1 l1.length c1) (.string a2) (.string a3) (.string a4) m pc (.int .i64 18) (.int .i64 ia) (.int .i64 ib) (.int .i64 ic) (.int .i64 id) (.string s5) (.string s6) (.string s7) (.slice A8 n8 c8) v (l) r1 w8 HS8.out.hm (by have:=HL.out;(try simp only [List.length_append,List.length_cons,List.length_nil]);omega) HS8.out.hs).mono ?_
 rintro e w9 ⟨v1,rfl,hm,hb,hk⟩
 have HS9:=aq (HS8.out.put hm hb hk)
 clear hm hb hk
 clear f0 f1
 have HS : Aside0 (IvS w w9.drew base g (.slice A0 l0.length c0) (.slice A1 l1.length c1) (.string a2) (.string a3) (.string a4) m pc (.int .i64 18) (.int .i64 ia) (.int .i64 ib) (.int .i64 ic) (.int .i64 id) (.string s5) (.string s6) (.string s7) (.slice A8 n8 c8) v v1 (l ++ [(⟨7,pc,z50,z50,⟨m,0,⟨#[]⟩⟩,z44,r1,z25,noSl⟩ : CV)]) n #[.string r1,.string r2] 44):=⟨HS9.out.below (below_drew1 (Below.refl _ _))⟩
 have z0 : w9.drew.cell? ⟨g,12,none⟩ = some (.int .i64 ic):=blk_cell HS.out.hm.b 12
 have z1 : w9.drew.cell? ⟨n,0,none⟩ = some (.string r1):=blk_cell HS.out.hz 0
 have z2 : w9.drew.cell? ⟨n,1,none⟩ = some (.string r2):=blk_cell HS.out.hz 1
 go_wp2_with fail
 refine start_ (n:=11) (S:=fun w' => w'.cell? ⟨g,12,none⟩ = some (.int .i64 ic) ∧ w'.cell? ⟨n,0,none⟩ = some (.string r1) ∧ w'.cell? ⟨n,1,none⟩ = some (.string r2)) (ds:=[10]) (Array.replicate 11 false) (by kernel_rfl) rfl rfl ⟨z0,z1,z2⟩ (fun hHeld => ?_)
 generalize w9.drew = X at HS z0 z1 z2 hHeld ⊢
 refine sP (i:=0) (N:=some 101) ?_
 refine sP (i:=3) (N:=some 104) ?_
 refine sP (i:=4) (N:=some 105) ?_
 refine sP (i:=5) (N:=some 106) ?_
 refine sP (i:=6) (N:=some 107) ?_
 refine sP (i:=7) (N:=some 108) ?_
 refine sT (i:=1) (N:=some 102) hHeld ?_
 refine sT (i:=8) (N:=some 109) hHeld ?_
 refine sO (i:=2) (N:=some 103) fun K hK => ?_
 refine sG Try.func17 #[.agg #[.string r1,.string r2]] ?_
 refine (Q43.gen_Static.calls r1 r2 3 ⟨#[]⟩ ⟨#[]⟩ ⟨#[]⟩ 0 r1 r2 ⟨#[]⟩ ⟨#[]⟩ ⟨#[]⟩ 0 ⟨#[]⟩ X rfl).mono ?_
 rintro e w1 ⟨rfl,hb⟩
 refine ⟨_,rfl,?_⟩
 have y0:=sC hb z0
 have y1:=sC hb z1
 have y2:=sC hb z2
 have HT1:=aq (HS.out.below hb)
 clear hb
 refine hK.out _ _ ⟨y0,y1,y2⟩ (fun hHeld => ?_)
 clear hK K
 refine sN ?_
 refine sO (i:=9) (N:=some 110) fun K hK => ?_
 refine sG Try.func38 #[.pointer (some ⟨g,0,none⟩),.int .i64 ic] ?_
 refine (maker_reg g (.slice A0 l0.length c0) (.slice A1 l1.length c1) (.string a2) (.string a3) (.string a4) m pc (.int .i64 18) (.int .i64 ia) (.int .i64 ib) (.int .i64 ic) (.int .i64 id) (.string s5) (.string s6) (.string s7) (.slice A8 n8 c8) v1 ic w1 HT1.out.hm.b).mono ?_
 rintro e w2 ⟨rfl,hb⟩
 refine ⟨_,rfl,?_⟩
 have x0:=sC hb y0
 have x1:=sC hb y1
 have x2:=sC hb y2
 have HT2:=aq (HT1.out.below hb)
 clear hb
 refine hK.out _ _ ⟨x0,x1,x2⟩ (fun hHeld => ?_)
 clear hK K
 refine sN ?_
 refine sX (i:=10) (N:=some 111) fun K hK => ?_
 refine sG Try.func37 #[.pointer (some ⟨g,0,none⟩),.agg #[.int .i64 3,.string ⟨#[]⟩,.string ⟨#[]⟩,.string ⟨#[]⟩,.int .i64 0,.string r1,.string r2,.string ⟨#[]⟩,.string ⟨#[]⟩,.string ⟨#[]⟩,.int .i64 0,.string ⟨#[]⟩],.agg (List.toArray (qR 1 m ic [])),.string ⟨#[]⟩] ?_
 refine (maker_flows base g (.slice A0 l0.length c0) (.slice A1 l1.length c1) (.string a2) (.string a3) (.string a4) m pc (.int .i64 18) (.int .i64 ia) (.int .i64 ib) (.int .i64 ic) (.int .i64 id) (.string s5) (.string s6) (.string s7) (.slice A8 n8 c8) v1 (l ++ [(⟨7,pc,z50,z50,⟨m,0,⟨#[]⟩⟩,z44,r1,z25,noSl⟩ : CV)]) (⟨3,z25,0,(⟨r1,r2⟩ : S44),z46⟩ : S50) (⟨1,m,ic,z44,z46⟩ : S50) ⟨#[]⟩ w2 HT2.out.hm (by have:=HL.out;(try simp only [List.length_append,List.length_cons,List.length_nil]);omega) HT2.out.hs).mono ?_
 rintro e w3 ⟨v3,rfl,hm3,hb3,hk3⟩
 refine ⟨_,rfl,?_⟩
 have HS3:=aq (HT2.out.put hm3 hb3 hk3)
 clear hm3 hb3 hk3
 refine hK.out _ _ ?_
 clear hK K
 refine sN ?_
 refine done_ (by kernel_rfl) ?_
 go_wp2_with fail
 try simp only [List.append_assoc,List.cons_append,List.nil_append] at HS3
 exact bodyPost_end (v:=.tuple #[]) (by simp [results,Try.results72,go_sem]) rfl (by first|exact ⟨_,[(⟨7,pc,z50,z50,⟨m,0,⟨#[]⟩⟩,z44,r1,z25,noSl⟩ : CV),(⟨2,pc,(⟨3,z25,0,(⟨r1,r2⟩ : S44),z46⟩ : S50),(⟨1,m,ic,z44,z46⟩ : S50),⟨m,0,⟨#[]⟩⟩,z44,⟨#[]⟩,z25,noSl⟩ : CV)],rfl,HS3.out.hm,Nat.le_of_ble_eq_true rfl,(asked_cons rfl rfl (fun h => absurd (show (0 : Int) = 1 from h) (by decide)) (fun h => absurd (show (0 : Int) = 1 from h) (by decide)) (asked_cons rfl rfl (fun h => absurd (show (3 : Int) = 1 from h) (by decide)) (fun _ => ⟨rfl,by simp [usesR]⟩) asked_nil)),HS3.out.hB,HS3.out.hK⟩|exact ⟨rfl,_,[(⟨7,pc,z50,z50,⟨m,0,⟨#[]⟩⟩,z44,r1,z25,noSl⟩ : CV),(⟨2,pc,(⟨3,z25,0,(⟨r1,r2⟩ : S44),z46⟩ : S50),(⟨1,m,ic,z44,z46⟩ : S50),⟨m,0,⟨#[]⟩⟩,z44,⟨#[]⟩,z25,noSl⟩ : CV)],HS3.out.hm,Nat.le_of_ble_eq_true rfl,(asked_cons rfl rfl (fun h => absurd (show (0 : Int) = 1 from h) (by decide)) (fun h => absurd (show (0 : Int) = 1 from h) (by decide)) (asked_cons rfl rfl (fun h => absurd (show (3 : Int) = 1 from h) (by decide)) (fun _ => ⟨rfl,by simp [usesR]⟩) asked_nil)),HS3.out.hB,HS3.out.hK⟩)
theorem iv_field15 (base g : Nat) (A0 : Option Addr) (c0 : Nat) (l0 : List S33) (A1 : Option Addr) (c1 : Nat) (l1 : List ByteArray) (a2 a3 a4 : ByteArray) (m : S25) (pc : Int) (ia ib ic id : Int) (s5 s6 s7 : ByteArray) (A8 : Option Addr) (n8 c8 : Nat) (ags : List Int) (v : Value) (l : List CV) (w : World) (hm : MkOwn w base g (.slice A0 l0.length c0) (.slice A1 l1.length c1) (.string a2) (.string a3) (.string a4) m pc (.int .i64 15) (.int .i64 ia) (.int .i64 ib) (.int .i64 ic) (.int .i64 id) (.string s5) (.string s6) (.string s7) (.slice A8 n8 c8) v l) (hl : l.length + 2 ≤ 1048576) (hbz : base ≤ w.heap.size) (hr0 : Kd.C k33 w A0 l0.length l0) (hc0 : l0.length ≤ c0) (hr1 : Kd.C Kd.string w A1 l1.length l1) (hc1 : l1.length ≤ c1) (r1 r2 : ByteArray) (ok : Bool) (hf : find_Field.f l0 l1 a2 a3 a4 s5 s6 = some (r1, r2, ok)) :
  Calls Try.prog 46 #[.pointer (some ⟨g,0,none⟩)] w fun e w' => ∃ v' ins,e = .returned (.tuple #[]) ∧ MkOwn w' base g (.slice A0 l0.length c0) (.slice A1 l1.length c1) (.string a2) (.string a3) (.string a4) m pc (.int .i64 15) (.int .i64 ia) (.int .i64 ib) (.int .i64 ic) (.int .i64 id) (.string s5) (.string s6) (.string s7) (.slice A8 n8 c8) v' (l ++ ins) ∧ ins.length ≤ 3 ∧ Asked m pc (⟨15,ia,ib,ic,id,s5,s6,s7,ags⟩ : S74) ins ok ∧ Below base w w' ∧ Kp w w' g v v':=by
 have hab:=below_alloc (Below.refl w.heap.size w) (Obj.cells #[.int .i64 15,.int .i64 ia,.int .i64 ib,.int .i64 ic,.int .i64 id,.string s5,.string s6,.string s7,.slice A8 n8 c8] 74)
 have HC:=aq (fun (h : IvS w (w.alloc (Obj.cells #[.int .i64 15,.int .i64 ia,.int .i64 ib,.int .i64 ic,.int .i64 id,.string s5,.string s6,.string s7,.slice A8 n8 c8] 74)) base g (.slice A0 l0.length c0) (.slice A1 l1.length c1) (.string a2) (.string a3) (.string a4) m pc (.int .i64 15) (.int .i64 ia) (.int .i64 ib) (.int .i64 ic) (.int .i64 id) (.string s5) (.string s6) (.string s7) (.slice A8 n8 c8) v v l w.heap.size #[.int .i64 15,.int .i64 ia,.int .i64 ib,.int .i64 ic,.int .i64 id,.string s5,.string s6,.string s7,.slice A8 n8 c8] 74) => mk_field15 base g A0 c0 l0 A1 c1 l1 a2 a3 a4 m pc ia ib ic id s5 s6 s7 A8 n8 c8 ags v l (w.alloc (Obj.cells #[.int .i64 15,.int .i64 ia,.int .i64 ib,.int .i64 ic,.int .i64 id,.string s5,.string s6,.string s7,.slice A8 n8 c8] 74)) h.hm hl h.hs (Kd.C_below hr0 hab) hc0 (Kd.C_below hr1 hab) hc1 r1 r2 ok hf)
 clear hab
 have HS0:=aq (IvS.start hm hbz #[.int .i64 15,.int .i64 ia,.int .i64 ib,.int .i64 ic,.int .i64 id,.string s5,.string s6,.string s7,.slice A8 n8 c8] 74)
 have HL:=aq hl
 obtain ⟨e9,e10,e11,e12,e13,e14,e15,e16,e17⟩ : w.cell? ⟨g,9,none⟩ = some (.int .i64 15) ∧ w.cell? ⟨g,10,none⟩ = some (.int .i64 ia) ∧ w.cell? ⟨g,11,none⟩ = some (.int .i64 ib) ∧ w.cell? ⟨g,12,none⟩ = some (.int .i64 ic) ∧ w.cell? ⟨g,13,none⟩ = some (.int .i64 id) ∧ w.cell? ⟨g,14,none⟩ = some (.string s5) ∧ w.cell? ⟨g,15,none⟩ = some (.string s6) ∧ w.cell? ⟨g,16,none⟩ = some (.string s7) ∧ w.cell? ⟨g,17,none⟩ = some (.slice A8 n8 c8):=⟨blk_cell hm.b 9,blk_cell hm.b 10,blk_cell hm.b 11,blk_cell hm.b 12,blk_cell hm.b 13,blk_cell hm.b 14,blk_cell hm.b 15,blk_cell hm.b 16,blk_cell hm.b 17⟩
 clear hm hbz hl
 go_enter Try.func46,Try.ntmps46
 go_wp2_with fail
 clear e9 e10 e11 e12 e13 e14 e15 e16 e17
 refine (HC.out HS0.out).mono ?_
 rintro e w1 ⟨v1,ins,rfl,hm1,hln,hask,hb1,hk1⟩
 have HS1:=aq (HS0.out.put hm1 hb1 hk1)
 have HN:=aq hln
 have HK:=aq hask
 clear hm1 hln hask hb1 hk1
 go_wp2_with fail
 exact bodyPost_end (v:=.tuple #[]) (by simp [results,Try.results46,go_sem]) rfl (by first|exact ⟨_,ins,rfl,HS1.out.hm,HN.out,HK.out,HS1.out.hB,HS1.out.hK⟩|exact ⟨rfl,_,ins,HS1.out.hm,HN.out,HK.out,HS1.out.hB,HS1.out.hK⟩)
theorem iv_field16 (base g : Nat) (A0 : Option Addr) (c0 : Nat) (l0 : List S33) (A1 : Option Addr) (c1 : Nat) (l1 : List ByteArray) (a2 a3 a4 : ByteArray) (m : S25) (pc : Int) (ia ib ic id : Int) (s5 s6 s7 : ByteArray) (A8 : Option Addr) (n8 c8 : Nat) (ags : List Int) (v : Value) (l : List CV) (w : World) (hm : MkOwn w base g (.slice A0 l0.length c0) (.slice A1 l1.length c1) (.string a2) (.string a3) (.string a4) m pc (.int .i64 16) (.int .i64 ia) (.int .i64 ib) (.int .i64 ic) (.int .i64 id) (.string s5) (.string s6) (.string s7) (.slice A8 n8 c8) v l) (hl : l.length + 2 ≤ 1048576) (hbz : base ≤ w.heap.size) (hr0 : Kd.C k33 w A0 l0.length l0) (hc0 : l0.length ≤ c0) (hr1 : Kd.C Kd.string w A1 l1.length l1) (hc1 : l1.length ≤ c1) (r1 r2 : ByteArray) (ok : Bool) (hf : find_Field.f l0 l1 a2 a3 a4 s5 s6 = some (r1, r2, ok)) :
  Calls Try.prog 46 #[.pointer (some ⟨g,0,none⟩)] w fun e w' => ∃ v' ins,e = .returned (.tuple #[]) ∧ MkOwn w' base g (.slice A0 l0.length c0) (.slice A1 l1.length c1) (.string a2) (.string a3) (.string a4) m pc (.int .i64 16) (.int .i64 ia) (.int .i64 ib) (.int .i64 ic) (.int .i64 id) (.string s5) (.string s6) (.string s7) (.slice A8 n8 c8) v' (l ++ ins) ∧ ins.length ≤ 3 ∧ Asked m pc (⟨16,ia,ib,ic,id,s5,s6,s7,ags⟩ : S74) ins false ∧ Below base w w' ∧ Kp w w' g v v':=by
 have hab:=below_alloc (Below.refl w.heap.size w) (Obj.cells #[.int .i64 16,.int .i64 ia,.int .i64 ib,.int .i64 ic,.int .i64 id,.string s5,.string s6,.string s7,.slice A8 n8 c8] 74)
 have HC:=aq (fun (h : IvS w (w.alloc (Obj.cells #[.int .i64 16,.int .i64 ia,.int .i64 ib,.int .i64 ic,.int .i64 id,.string s5,.string s6,.string s7,.slice A8 n8 c8] 74)) base g (.slice A0 l0.length c0) (.slice A1 l1.length c1) (.string a2) (.string a3) (.string a4) m pc (.int .i64 16) (.int .i64 ia) (.int .i64 ib) (.int .i64 ic) (.int .i64 id) (.string s5) (.string s6) (.string s7) (.slice A8 n8 c8) v v l w.heap.size #[.int .i64 16,.int .i64 ia,.int .i64 ib,.int .i64 ic,.int .i64 id,.string s5,.string s6,.string s7,.slice A8 n8 c8] 74) => mk_field16 base g A0 c0 l0 A1 c1 l1 a2 a3 a4 m pc ia ib ic id s5 s6 s7 A8 n8 c8 ags v l (w.alloc (Obj.cells #[.int .i64 16,.int .i64 ia,.int .i64 ib,.int .i64 ic,.int .i64 id,.string s5,.string s6,.string s7,.slice A8 n8 c8] 74)) h.hm hl h.hs (Kd.C_below hr0 hab) hc0 (Kd.C_below hr1 hab) hc1 r1 r2 ok hf)
 clear hab
 have HS0:=aq (IvS.start hm hbz #[.int .i64 16,.int .i64 ia,.int .i64 ib,.int .i64 ic,.int .i64 id,.string s5,.string s6,.string s7,.slice A8 n8 c8] 74)
 have HL:=aq hl
 obtain ⟨e9,e10,e11,e12,e13,e14,e15,e16,e17⟩ : w.cell? ⟨g,9,none⟩ = some (.int .i64 16) ∧ w.cell? ⟨g,10,none⟩ = some (.int .i64 ia) ∧ w.cell? ⟨g,11,none⟩ = some (.int .i64 ib) ∧ w.cell? ⟨g,12,none⟩ = some (.int .i64 ic) ∧ w.cell? ⟨g,13,none⟩ = some (.int .i64 id) ∧ w.cell? ⟨g,14,none⟩ = some (.string s5) ∧ w.cell? ⟨g,15,none⟩ = some (.string s6) ∧ w.cell? ⟨g,16,none⟩ = some (.string s7) ∧ w.cell? ⟨g,17,none⟩ = some (.slice A8 n8 c8):=⟨blk_cell hm.b 9,blk_cell hm.b 10,blk_cell hm.b 11,blk_cell hm.b 12,blk_cell hm.b 13,blk_cell hm.b 14,blk_cell hm.b 15,blk_cell hm.b 16,blk_cell hm.b 17⟩
 clear hm hbz hl
 go_enter Try.func46,Try.ntmps46
 go_wp2_with fail
 clear e9 e10 e11 e12 e13 e14 e15 e16 e17
 refine (HC.out HS0.out).mono ?_
 rintro e w1 ⟨v1,ins,rfl,hm1,hln,hask,hb1,hk1⟩
 have HS1:=aq (HS0.out.put hm1 hb1 hk1)
 have HN:=aq hln
 have HK:=aq hask
 clear hm1 hln hask hb1 hk1
 go_wp2_with fail
 exact bodyPost_end (v:=.tuple #[]) (by simp [results,Try.results46,go_sem]) rfl (by first|exact ⟨_,ins,rfl,HS1.out.hm,HN.out,HK.out,HS1.out.hB,HS1.out.hK⟩|exact ⟨rfl,_,ins,HS1.out.hm,HN.out,HK.out,HS1.out.hB,HS1.out.hK⟩)
theorem iv_field17 (base g : Nat) (A0 : Option Addr) (c0 : Nat) (l0 : List S33) (A1 : Option Addr) (c1 : Nat) (l1 : List ByteArray) (a2 a3 a4 : ByteArray) (m : S25) (pc : Int) (ia ib ic id : Int) (s5 s6 s7 : ByteArray) (A8 : Option Addr) (n8 c8 : Nat) (ags : List Int) (v : Value) (l : List CV) (w : World) (hm : MkOwn w base g (.slice A0 l0.length c0) (.slice A1 l1.length c1) (.string a2) (.string a3) (.string a4) m pc (.int .i64 17) (.int .i64 ia) (.int .i64 ib) (.int .i64 ic) (.int .i64 id) (.string s5) (.string s6) (.string s7) (.slice A8 n8 c8) v l) (hl : l.length + 2 ≤ 1048576) (hbz : base ≤ w.heap.size) (hr0 : Kd.C k33 w A0 l0.length l0) (hc0 : l0.length ≤ c0) (hr1 : Kd.C Kd.string w A1 l1.length l1) (hc1 : l1.length ≤ c1) (r1 r2 : ByteArray) (ok : Bool) (hf : find_Field.f l0 l1 a2 a3 a4 s5 s6 = some (r1, r2, ok)) :
  Calls Try.prog 46 #[.pointer (some ⟨g,0,none⟩)] w fun e w' => ∃ v' ins,e = .returned (.tuple #[]) ∧ MkOwn w' base g (.slice A0 l0.length c0) (.slice A1 l1.length c1) (.string a2) (.string a3) (.string a4) m pc (.int .i64 17) (.int .i64 ia) (.int .i64 ib) (.int .i64 ic) (.int .i64 id) (.string s5) (.string s6) (.string s7) (.slice A8 n8 c8) v' (l ++ ins) ∧ ins.length ≤ 3 ∧ Asked m pc (⟨17,ia,ib,ic,id,s5,s6,s7,ags⟩ : S74) ins ok ∧ Below base w w' ∧ Kp w w' g v v':=by
 have hab:=below_alloc (Below.refl w.heap.size w) (Obj.cells #[.int .i64 17,.int .i64 ia,.int .i64 ib,.int .i64 ic,.int .i64 id,.string s5,.string s6,.string s7,.slice A8 n8 c8] 74)
 have HC:=aq (fun (h : IvS w (w.alloc (Obj.cells #[.int .i64 17,.int .i64 ia,.int .i64 ib,.int .i64 ic,.int .i64 id,.string s5,.string s6,.string s7,.slice A8 n8 c8] 74)) base g (.slice A0 l0.length c0) (.slice A1 l1.length c1) (.string a2) (.string a3) (.string a4) m pc (.int .i64 17) (.int .i64 ia) (.int .i64 ib) (.int .i64 ic) (.int .i64 id) (.string s5) (.string s6) (.string s7) (.slice A8 n8 c8) v v l w.heap.size #[.int .i64 17,.int .i64 ia,.int .i64 ib,.int .i64 ic,.int .i64 id,.string s5,.string s6,.string s7,.slice A8 n8 c8] 74) => mk_field17 base g A0 c0 l0 A1 c1 l1 a2 a3 a4 m pc ia ib ic id s5 s6 s7 A8 n8 c8 ags v l (w.alloc (Obj.cells #[.int .i64 17,.int .i64 ia,.int .i64 ib,.int .i64 ic,.int .i64 id,.string s5,.string s6,.string s7,.slice A8 n8 c8] 74)) h.hm hl h.hs (Kd.C_below hr0 hab) hc0 (Kd.C_below hr1 hab) hc1 r1 r2 ok hf)
 clear hab
 have HS0:=aq (IvS.start hm hbz #[.int .i64 17,.int .i64 ia,.int .i64 ib,.int .i64 ic,.int .i64 id,.string s5,.string s6,.string s7,.slice A8 n8 c8] 74)
 have HL:=aq hl
 obtain ⟨e9,e10,e11,e12,e13,e14,e15,e16,e17⟩ : w.cell? ⟨g,9,none⟩ = some (.int .i64 17) ∧ w.cell? ⟨g,10,none⟩ = some (.int .i64 ia) ∧ w.cell? ⟨g,11,none⟩ = some (.int .i64 ib) ∧ w.cell? ⟨g,12,none⟩ = some (.int .i64 ic) ∧ w.cell? ⟨g,13,none⟩ = some (.int .i64 id) ∧ w.cell? ⟨g,14,none⟩ = some (.string s5) ∧ w.cell? ⟨g,15,none⟩ = some (.string s6) ∧ w.cell? ⟨g,16,none⟩ = some (.string s7) ∧ w.cell? ⟨g,17,none⟩ = some (.slice A8 n8 c8):=⟨blk_cell hm.b 9,blk_cell hm.b 10,blk_cell hm.b 11,blk_cell hm.b 12,blk_cell hm.b 13,blk_cell hm.b 14,blk_cell hm.b 15,blk_cell hm.b 16,blk_cell hm.b 17⟩
 clear hm hbz hl
 go_enter Try.func46,Try.ntmps46
 go_wp2_with fail
 clear e9 e10 e11 e12 e13 e14 e15 e16 e17
 refine (HC.out HS0.out).mono ?_
 rintro e w1 ⟨v1,ins,rfl,hm1,hln,hask,hb1,hk1⟩
 have HS1:=aq (HS0.out.put hm1 hb1 hk1)
 have HN:=aq hln
 have HK:=aq hask
 clear hm1 hln hask hb1 hk1
 go_wp2_with fail
 exact bodyPost_end (v:=.tuple #[]) (by simp [results,Try.results46,go_sem]) rfl (by first|exact ⟨_,ins,rfl,HS1.out.hm,HN.out,HK.out,HS1.out.hB,HS1.out.hK⟩|exact ⟨rfl,_,ins,HS1.out.hm,HN.out,HK.out,HS1.out.hB,HS1.out.hK⟩)
theorem iv_field18 (base g : Nat) (A0 : Option Addr) (c0 : Nat) (l0 : List S33) (A1 : Option Addr) (c1 : Nat) (l1 : List ByteArray) (a2 a3 a4 : ByteArray) (m : S25) (pc : Int) (ia ib ic id : Int) (s5 s6 s7 : ByteArray) (A8 : Option Addr) (n8 c8 : Nat) (ags : List Int) (v : Value) (l : List CV) (w : World) (hm : MkOwn w base g (.slice A0 l0.length c0) (.slice A1 l1.length c1) (.string a2) (.string a3) (.string a4) m pc (.int .i64 18) (.int .i64 ia) (.int .i64 ib) (.int .i64 ic) (.int .i64 id) (.string s5) (.string s6) (.string s7) (.slice A8 n8 c8) v l) (hl : l.length + 2 ≤ 1048576) (hbz : base ≤ w.heap.size) (hr0 : Kd.C k33 w A0 l0.length l0) (hc0 : l0.length ≤ c0) (hr1 : Kd.C Kd.string w A1 l1.length l1) (hc1 : l1.length ≤ c1) (r1 r2 : ByteArray) (ok : Bool) (hf : find_Field.f l0 l1 a2 a3 a4 s5 s6 = some (r1, r2, ok)) :
  Calls Try.prog 46 #[.pointer (some ⟨g,0,none⟩)] w fun e w' => ∃ v' ins,e = .returned (.tuple #[]) ∧ MkOwn w' base g (.slice A0 l0.length c0) (.slice A1 l1.length c1) (.string a2) (.string a3) (.string a4) m pc (.int .i64 18) (.int .i64 ia) (.int .i64 ib) (.int .i64 ic) (.int .i64 id) (.string s5) (.string s6) (.string s7) (.slice A8 n8 c8) v' (l ++ ins) ∧ ins.length ≤ 3 ∧ Asked m pc (⟨18,ia,ib,ic,id,s5,s6,s7,ags⟩ : S74) ins false ∧ Below base w w' ∧ Kp w w' g v v':=by
 have hab:=below_alloc (Below.refl w.heap.size w) (Obj.cells #[.int .i64 18,.int .i64 ia,.int .i64 ib,.int .i64 ic,.int .i64 id,.string s5,.string s6,.string s7,.slice A8 n8 c8] 74)
 have HC:=aq (fun (h : IvS w (w.alloc (Obj.cells #[.int .i64 18,.int .i64 ia,.int .i64 ib,.int .i64 ic,.int .i64 id,.string s5,.string s6,.string s7,.slice A8 n8 c8] 74)) base g (.slice A0 l0.length c0) (.slice A1 l1.length c1) (.string a2) (.string a3) (.string a4) m pc (.int .i64 18) (.int .i64 ia) (.int .i64 ib) (.int .i64 ic) (.int .i64 id) (.string s5) (.string s6) (.string s7) (.slice A8 n8 c8) v v l w.heap.size #[.int .i64 18,.int .i64 ia,.int .i64 ib,.int .i64 ic,.int .i64 id,.string s5,.string s6,.string s7,.slice A8 n8 c8] 74) => mk_field18 base g A0 c0 l0 A1 c1 l1 a2 a3 a4 m pc ia ib ic id s5 s6 s7 A8 n8 c8 ags v l (w.alloc (Obj.cells #[.int .i64 18,.int .i64 ia,.int .i64 ib,.int .i64 ic,.int .i64 id,.string s5,.string s6,.string s7,.slice A8 n8 c8] 74)) h.hm hl h.hs (Kd.C_below hr0 hab) hc0 (Kd.C_below hr1 hab) hc1 r1 r2 ok hf)
 clear hab
 have HS0:=aq (IvS.start hm hbz #[.int .i64 18,.int .i64 ia,.int .i64 ib,.int .i64 ic,.int .i64 id,.string s5,.string s6,.string s7,.slice A8 n8 c8] 74)
 have HL:=aq hl
 obtain ⟨e9,e10,e11,e12,e13,e14,e15,e16,e17⟩ : w.cell? ⟨g,9,none⟩ = some (.int .i64 18) ∧ w.cell? ⟨g,10,none⟩ = some (.int .i64 ia) ∧ w.cell? ⟨g,11,none⟩ = some (.int .i64 ib) ∧ w.cell? ⟨g,12,none⟩ = some (.int .i64 ic) ∧ w.cell? ⟨g,13,none⟩ = some (.int .i64 id) ∧ w.cell? ⟨g,14,none⟩ = some (.string s5) ∧ w.cell? ⟨g,15,none⟩ = some (.string s6) ∧ w.cell? ⟨g,16,none⟩ = some (.string s7) ∧ w.cell? ⟨g,17,none⟩ = some (.slice A8 n8 c8):=⟨blk_cell hm.b 9,blk_cell hm.b 10,blk_cell hm.b 11,blk_cell hm.b 12,blk_cell hm.b 13,blk_cell hm.b 14,blk_cell hm.b 15,blk_cell hm.b 16,blk_cell hm.b 17⟩
 clear hm hbz hl
 go_enter Try.func46,Try.ntmps46
 go_wp2_with fail
 clear e9 e10 e11 e12 e13 e14 e15 e16 e17
 refine (HC.out HS0.out).mono ?_
 rintro e w1 ⟨v1,ins,rfl,hm1,hln,hask,hb1,hk1⟩
 have HS1:=aq (HS0.out.put hm1 hb1 hk1)
 have HN:=aq hln
 have HK:=aq hask
 clear hm1 hln hask hb1 hk1
 go_wp2_with fail
 exact bodyPost_end (v:=.tuple #[]) (by simp [results,Try.results46,go_sem]) rfl (by first|exact ⟨_,ins,rfl,HS1.out.hm,HN.out,HK.out,HS1.out.hB,HS1.out.hK⟩|exact ⟨rfl,_,ins,HS1.out.hm,HN.out,HK.out,HS1.out.hB,HS1.out.hK⟩)
end Go.Proofs.Ytfplcohjnlbfjaa.HandV
end

section
namespace Go.Proofs.Ytfplcohjnlbfjaa.Hand
open Go.RowKit Go.Proofs.YtfplcohjnlbfjaaW
open PrintWords PrintLast PrintMore
theorem int_info : (Try.prog.info? 3).map (fun i => (i.zero, i.size, i.bytes)) = some (some (.int .i64 0), 1, 8) := by kernel_rfl
def slices_Clone_int_int.f (l0 : List Int) : Option (List Int) := if l0.length ≤ 1048576 then some l0 else none
theorem own_emptyI (W : World) (base e g : Nat) (h : W.heap[g]? = some (.cells #[] e (0, 0))) (hb : base ≤ g) : W.ownsRow base e 1 (.slice (some ⟨g, 0, none⟩) 0 0) 0 [] :=
 ⟨rfl,.inr ⟨g,0,#[],rfl,hb,h,Nat.le_refl _,by decide,rfl,rfl⟩⟩
theorem slices_Clone_int_int.calls (A0 : Option Addr) (c0 : Nat) (l0 : List Int) (r : List Int) (w : World) (hr0 : Kd.C (Kd.int .i64) w A0 l0.length l0) (hc0 : l0.length ≤ c0) (h : slices_Clone_int_int.f l0 = some r) :
  Calls Try.prog 92 #[.slice A0 l0.length c0] w fun e w' => ∃ v0_ : Value,e = .returned (v0_) ∧ Kd.R (Kd.int .i64) 3 w' w.heap.size (fun _ => True) v0_ r ∧ Below w.heap.size w w':=by
 unfold slices_Clone_int_int.f at h
 split at h
 ·
  rename_i hg
  obtain rfl:=Option.some.inj h
  clear h
  have HR:=aq hr0
  cases A0 with
  | none =>
   have hn : l0.length = 0:=by
    rcases Nat.eq_zero_or_pos l0.length with h|h
    ·
     exact h
    ·
     obtain ⟨ad,h1,_⟩:=(Kd.reads_of_C (enc:=Value.int .i64) (d:=(0 : Int)) (h1:=fun _ => rfl) hr0).2.2 h
     cases h1
   obtain rfl:=List.length_eq_zero_iff.1 hn
   have hq:=fun (W : World) (n c : Nat) => Lib.run_eql_slice_nil (P:=Try.prog) W 58 3 none n c 0 0 Try.underlying58
   clear hr0 hn hg
   go_enter Try.func92,Try.ntmps92
   go_wp2
   go_ret
   exact ⟨_,rfl,Kd.R_nil _ _ _ _ _,Below.refl _ _⟩
  | some ad =>
   clear hr0
   have hq:=fun (W : World) (n c : Nat) => Lib.run_eql_slice_nil (P:=Try.prog) W 58 3 (some ad) n c 0 0 Try.underlying58
   go_enter Try.func92,Try.ntmps92
   go_wp2_with (first|(at_builtin;refine Kd.R_append_rows (Kd.int .i64) (w0:=w) w.heap.size rfl (.tmp 5) (.tmp 6) 58 3 (.int .i64 0) 8 rfl Try.underlying58 int_info rfl (by decide) (by omega) (.slice (some ⟨w.heap.size,0,none⟩) 0 0) ([] : List Int) l0 _ _ _ (fun _ => True) (fun _ => False) rfl rfl ?aO ?aR (fun _ _ h => h) (fun _ h => h.elim) ?aF ?aB ?aS ?aL ?_;(case aR => exact Kd.C_alloc HR.out _);(case aB => exact below_alloc (Below.refl _ _) _);(case aF => exact (fun _ _ => trivial));(case aO => exact (Kd.R_of_own (own_emptyI _ _ _ _ (blk_new _ _) (Nat.le_refl _)) (fun _ _ => trivial)));(case aS => exact (by simp));(case aL => exact (by show (0 + l0.length) * 8 ≤ 140737488355328;omega));intro v1 w1 ho hb hg hat;have HB2:=aq hb;have HO2:=aq ho;clear ho hb hg hat))
   go_ret
   exact ⟨_,rfl,HO2.out,HB2.out⟩
 ·
  cases h
def ansB (s : ByteArray) : Bool := decide ((splitD classL (bl s)).2.2 = 0) && decide ((splitD classL (bl s)).2.1.1 ≠ 1)
def ansP (m : S25) (ia : Int) (s : ByteArray) : S50 := if ansB s = true then ⟨1, m, ia, z44, z46⟩ else z50
theorem mk_answer (g : Nat) (a0 a1 a2 a3 a4 : Value) (m : S25) (pc : Int) (b0 : Value) (ia : Int) (b2 b3 b4 b5 b6 : Value) (s7 : ByteArray) (b8 v : Value) (w : World) (hm : w.heap[g]? = some (Obj.cells #[a0, a1, a2, a3, a4, .string m.f0, .string m.f1, .string m.f2, .int .i64 pc, b0, .int .i64 ia, b2, b3, b4, b5, b6, .string s7, b8, v] 85 (0, 0))) (hM : MaxL w) (hs : s7.size ≤ 1048576) :
  Calls Try.prog 91 #[.pointer (some ⟨g,0,none⟩)] w fun e w' => e = .returned (.agg #[.int .i64 (ansP m ia s7).f0,.string (ansP m ia s7).f1.f0,.string (ansP m ia s7).f1.f1,.string (ansP m ia s7).f1.f2,.int .i64 (ansP m ia s7).f2,.string (ansP m ia s7).f3.f0,.string (ansP m ia s7).f3.f1,.string (ansP m ia s7).f4.f0.f0,.string (ansP m ia s7).f4.f0.f1,.string (ansP m ia s7).f4.f0.f2,.int .i64 (ansP m ia s7).f4.f1,.string (ansP m ia s7).f4.f2]) ∧ Below w.heap.size w w':=by
 have hab:=below_alloc (Below.refl w.heap.size w) (Obj.cells (List.toArray (qZ [])) 50)
 have HSP:=aq (kind_split s7 (w.alloc (Obj.cells (List.toArray (qZ [])) 50)) (max_below hM hab) hs)
 have hb:=blk_below hm hab
 have HZ0:=aq (World.alloc_heap_new w (Obj.cells (List.toArray (qZ [])) 50))
 have HB0:=aq hab
 have HG0:=aq hb
 have e16 : (w.alloc (Obj.cells (List.toArray (qZ [])) 50)).cell? ⟨g,16,none⟩ = some (.string s7):=blk_cell hb 16
 have HRG:=aq (fun W (hW : W.heap[g]? = some (Obj.cells #[a0,a1,a2,a3,a4,.string m.f0,.string m.f1,.string m.f2,.int .i64 pc,b0,.int .i64 ia,b2,b3,b4,b5,b6,.string s7,b8,v] 85 (0,0))) => maker_reg g a0 a1 a2 a3 a4 m pc (b0) (.int .i64 ia) (b2) (b3) (b4) (b5) (b6) (.string s7) (b8) v ia W hW)
 obtain ⟨PA,hPA⟩ : ∃ PA,ansP m ia s7 = PA:=⟨_,rfl⟩
 obtain ⟨q,hq⟩ : ∃ q,splitD classL (bl s7) = q:=⟨_,rfl⟩
 have HPA : Aside0 (PA = if (decide (q.2.2 = 0) && decide (q.2.1.1 ≠ 1)) = true then ⟨1,m,ia,z44,z46⟩ else z50):=⟨by rw [← hPA,← hq];rfl⟩
 rw [hq] at HSP
 rw [hPA]
 clear hPA hq hm hab hb hM hs
 go_enter Try.func91,Try.ntmps91
 go_wp2_with fail
 refine HSP.out.mono ?_
 rintro e w1 ⟨vS,rfl,hR,hb⟩
 obtain ⟨AS,cS,hvS⟩:=Kd.R_slice hR
 subst hvS
 have HZ1:=aq (blk_below HZ0.out hb)
 have HB1:=aq (below_step HB0.out hb)
 have HG1:=aq (blk_below HG0.out hb)
 have HTB:=aq (World.alloc_heap_new w1 (Obj.cells #[.int .i64 q.2.1.1,.string (lb q.2.1.2)] 97))
 have hba:=below_alloc (Below.refl w1.heap.size w1) (Obj.cells #[.int .i64 q.2.1.1,.string (lb q.2.1.2)] 97)
 have HZ2:=aq (blk_below HZ1.out hba)
 have HB2:=aq (below_step HB1.out hba)
 have HG2:=aq (blk_below HG1.out hba)
 clear hb hR hba e16 HSP
 have e10 : (w1.alloc (Obj.cells #[.int .i64 q.2.1.1,.string (lb q.2.1.2)] 97)).cell? ⟨g,10,none⟩ = some (.int .i64 ia):=blk_cell HG2.out 10
 obtain ⟨y0,y1⟩:=cells2f HTB.out
 obtain ⟨z0,z1,z2,z3,z4,z5,z6,z7,z8,z9,z10,z11⟩:=cells12 HZ2.out
 have zf:=blk_frozen HZ2.out
 obtain ⟨qe,hqe⟩ : ∃ qe,q.2.2 = qe:=⟨_,rfl⟩
 obtain ⟨qk,hqk⟩ : ∃ qk,q.2.1.1 = qk:=⟨_,rfl⟩
 obtain ⟨qc,hqc⟩ : ∃ qc,q.2.1.2 = qc:=⟨_,rfl⟩
 rw [hqe,hqk] at HPA
 rw [hqe,hqk,hqc]
 rw [hqk,hqc] at HTB HZ2 HB2 HG2 e10 y0 y1 z0 z1 z2 z3 z4 z5 z6 z7 z8 z9 z10 z11 zf
 clear hqe hqk hqc
 by_cases h0 : qe = 0
 ·
  have k0 : (qe != 0) = false:=by rw [h0];rfl
  by_cases h1 : qk = 1
  ·
   have k1 : (qk == 1) = true:=by rw [h1];rfl
   have HPB : Aside0 (PA = z50):=⟨by rw [HPA.out,if_neg (by rw [decide_eq_true h0,decide_eq_false (fun h => h h1)];decide)]⟩
   clear h0 h1 HPA
   go_wp2_with fail
   exact bodyPost_ret (results_cell_row rfl _ _ w.heap.size 50 (List.toArray (qZ [])) (0,0) _ rfl (set12_own HZ2.out _ _ _ _ _ _ _ _ _ _ _ _) Try.underlying50 rfl (by kernel_rfl)) rfl ⟨by rw [HPB.out];rfl,set12_below HB2.out (Nat.le_refl _) _ _ _ _ _ _ _ _ _ _ _ _⟩
  ·
   have k1 : (qk == 1) = false:=beq_eq_false_iff_ne.2 h1
   have HPB : Aside0 (PA = ⟨1,m,ia,z44,z46⟩):=⟨by rw [HPA.out,if_pos (by rw [decide_eq_true h0,decide_eq_true h1];rfl)]⟩
   clear h0 h1 HPA
   go_wp2_with fail
   refine (HRG.out _ HG2.out).mono ?_
   rintro e w3 ⟨rfl,hb⟩
   have HZ3:=aq (blk_below HZ2.out hb)
   have HB3:=aq (below_step HB2.out hb)
   clear hb e10 y0 y1 zf z0 z1 z2 z3 z4 z5 z6 z7 z8 z9 z10 z11
   obtain ⟨z0,z1,z2,z3,z4,z5,z6,z7,z8,z9,z10,z11⟩:=cells12 HZ3.out
   have zf:=blk_frozen HZ3.out
   go_wp2_with fail
   exact bodyPost_ret (results_cell_row rfl _ _ w.heap.size 50 (List.toArray (qR 1 m ia [])) (0,0) _ rfl (set12_own HZ3.out _ _ _ _ _ _ _ _ _ _ _ _) Try.underlying50 rfl (by kernel_rfl)) rfl ⟨by rw [HPB.out];rfl,set12_below HB3.out (Nat.le_refl _) _ _ _ _ _ _ _ _ _ _ _ _⟩
 ·
  have k0 : (qe != 0) = true:=bne_iff_ne.2 h0
  have HPB : Aside0 (PA = z50):=⟨by rw [HPA.out,if_neg (by rw [decide_eq_false h0,Bool.false_and];decide)]⟩
  clear h0 HPA
  go_wp2_with fail
  exact bodyPost_ret (results_cell_row rfl _ _ w.heap.size 50 (List.toArray (qZ [])) (0,0) _ rfl (set12_own HZ2.out _ _ _ _ _ _ _ _ _ _ _ _) Try.underlying50 rfl (by kernel_rfl)) rfl ⟨by rw [HPB.out];rfl,set12_below HB2.out (Nat.le_refl _) _ _ _ _ _ _ _ _ _ _ _ _⟩
end Go.Proofs.Ytfplcohjnlbfjaa.Hand
end

section
namespace Go.Proofs.Ytfplcohjnlbfjaa.Hand
open Go.RowKit Go.Proofs.YtfplcohjnlbfjaaW
open PrintWords PrintLast PrintMore
theorem instr_new (base g : Nat) (a0 a1 a2 a3 a4 : Value) (m : S25) (pc : Int) (ia ib ic id : Int) (s5 s6 s7 : ByteArray) (A8 : Option Addr) (n8 c8 : Nat) (v : Value) (l : List S60) (w : World) (hm : MkOwn w base g a0 a1 a2 a3 a4 m pc (.int .i64 9) (.int .i64 ia) (.int .i64 ib) (.int .i64 ic) (.int .i64 id) (.string s5) (.string s6) (.string s7) (.slice A8 n8 c8) v l) (hl : l.length + 2 ≤ 1048576) (hbz : base ≤ w.heap.size) :
  Calls Try.prog 46 #[.pointer (some ⟨g,0,none⟩)] w fun e w' => ∃ v',e = .returned (.tuple #[]) ∧ MkOwn w' base g a0 a1 a2 a3 a4 m pc (.int .i64 9) (.int .i64 ia) (.int .i64 ib) (.int .i64 ic) (.int .i64 id) (.string s5) (.string s6) (.string s7) (.slice A8 n8 c8) v' (l ++ [(⟨7,pc,z50,z50,⟨m,0,⟨#[]⟩⟩,z44,s5,z25,[]⟩ : S60)] ++ [(⟨1,pc,(⟨1,m,ia,z44,z46⟩ : S50),z50,⟨m,pc,s5⟩,z44,⟨#[]⟩,z25,[]⟩ : S60)]) ∧ Below base w w' ∧ Kp w w' g v v':=by
 have hab:=below_alloc (Below.refl w.heap.size w) (Obj.cells #[.int .i64 9,.int .i64 ia,.int .i64 ib,.int .i64 ic,.int .i64 id,.string s5,.string s6,.string s7,.slice A8 n8 c8] 74)
 have HA:=aq hab
 have HM0:=aq (hm.below hab hbz)
 have HZ0 : Aside0 ((w.alloc (Obj.cells #[.int .i64 9,.int .i64 ia,.int .i64 ib,.int .i64 ic,.int .i64 id,.string s5,.string s6,.string s7,.slice A8 n8 c8] 74)).heap[w.heap.size]? = some (Obj.cells #[.int .i64 9,.int .i64 ia,.int .i64 ib,.int .i64 ic,.int .i64 id,.string s5,.string s6,.string s7,.slice A8 n8 c8] 74 (0,0))):=⟨World.alloc_heap_new w _⟩
 have HNg : Aside0 (w.heap.size ≠ g):=⟨Nat.ne_of_gt (blk_lt hm.b)⟩
 have HNv : Aside0 (some w.heap.size ≠ v.ownBlock):=⟨fun e => by have:=Kd.R_lt hm.r _ e.symm;omega⟩
 have HBz:=aq hbz
 have HL:=aq hl
 obtain ⟨e9,e10,e11,e12,e13,e14,e15,e16,e17⟩ : w.cell? ⟨g,9,none⟩ = some (.int .i64 9) ∧ w.cell? ⟨g,10,none⟩ = some (.int .i64 ia) ∧ w.cell? ⟨g,11,none⟩ = some (.int .i64 ib) ∧ w.cell? ⟨g,12,none⟩ = some (.int .i64 ic) ∧ w.cell? ⟨g,13,none⟩ = some (.int .i64 id) ∧ w.cell? ⟨g,14,none⟩ = some (.string s5) ∧ w.cell? ⟨g,15,none⟩ = some (.string s6) ∧ w.cell? ⟨g,16,none⟩ = some (.string s7) ∧ w.cell? ⟨g,17,none⟩ = some (.slice A8 n8 c8):=⟨blk_cell hm.b 9,blk_cell hm.b 10,blk_cell hm.b 11,blk_cell hm.b 12,blk_cell hm.b 13,blk_cell hm.b 14,blk_cell hm.b 15,blk_cell hm.b 16,blk_cell hm.b 17⟩
 clear hm hab hbz hl
 go_enter Try.func46,Try.ntmps46
 go_wp2_with fail
 refine (maker_begins base g a0 a1 a2 a3 a4 m pc (.int .i64 9) (.int .i64 ia) (.int .i64 ib) (.int .i64 ic) (.int .i64 id) (.string s5) (.string s6) (.string s7) (.slice A8 n8 c8) v l s5 (w.alloc (Obj.cells #[.int .i64 9,.int .i64 ia,.int .i64 ib,.int .i64 ic,.int .i64 id,.string s5,.string s6,.string s7,.slice A8 n8 c8] 74)) HM0.out (by have:=HL.out;omega) (Nat.le_trans HBz.out HA.out.size)).mono ?_
 rintro e w1 ⟨v1,rfl,hm1,hb1,hk1⟩
 have HM1:=aq hm1
 have HB1:=aq ((HA.out.mono HBz.out).trans hb1)
 have HK1:=aq (Kp.pre HA.out hk1)
 have HZ1:=aq (hk1.blk HZ0.out HNg.out HNv.out)
 have HS1:=aq (Nat.le_trans (Nat.le_trans HBz.out HA.out.size) hk1.1.1)
 clear hm1 hb1 hk1 e9 e10 e11 e12 e13 e14 e15 e16 e17
 have z5 : w1.cell? ⟨w.heap.size,5,none⟩ = some (.string s5):=blk_cell HZ1.out 5
 go_wp2_with fail
 refine (maker_fresh base g a0 a1 a2 a3 a4 m pc (.int .i64 9) (.int .i64 ia) (.int .i64 ib) (.int .i64 ic) (.int .i64 id) (.string s5) (.string s6) (.string s7) (.slice A8 n8 c8) v1 (l ++ [(⟨7,pc,z50,z50,⟨m,0,⟨#[]⟩⟩,z44,s5,z25,[]⟩ : S60)]) ia s5 w1 HM1.out (by have:=HL.out;rw [List.length_append];show l.length + 1 ≤ _;omega) HS1.out).mono ?_
 rintro e w2 ⟨v2,rfl,hm2,hb2,hk2⟩
 have HM2:=aq hm2
 have HB2:=aq (HB1.out.trans hb2)
 have HK2:=aq (HK1.out.trans hk2)
 clear hm2 hb2 hk2 z5
 go_wp2_with fail
 exact bodyPost_end (v:=.tuple #[]) (by simp [results,Try.results46,go_sem]) rfl (by first|exact ⟨rfl,⟨_,HM2.out,HB2.out,HK2.out⟩⟩|exact ⟨_,rfl,HM2.out,HB2.out,HK2.out⟩)
theorem instr_end (base g : Nat) (a0 a1 a2 a3 a4 : Value) (m : S25) (pc : Int) (ia ib ic id : Int) (s5 s6 s7 : ByteArray) (A8 : Option Addr) (n8 c8 : Nat) (v : Value) (l : List S60) (w : World) (hm : MkOwn w base g a0 a1 a2 a3 a4 m pc (.int .i64 23) (.int .i64 ia) (.int .i64 ib) (.int .i64 ic) (.int .i64 id) (.string s5) (.string s6) (.string s7) (.slice A8 n8 c8) v l) (hl : l.length + 2 ≤ 1048576) (hbz : base ≤ w.heap.size) :
  Calls Try.prog 46 #[.pointer (some ⟨g,0,none⟩)] w fun e w' => ∃ v',e = .returned (.tuple #[]) ∧ MkOwn w' base g a0 a1 a2 a3 a4 m pc (.int .i64 23) (.int .i64 ia) (.int .i64 ib) (.int .i64 ic) (.int .i64 id) (.string s5) (.string s6) (.string s7) (.slice A8 n8 c8) v' (l) ∧ Below base w w' ∧ Kp w w' g v v':=by
 have hab:=below_alloc (Below.refl w.heap.size w) (Obj.cells #[.int .i64 23,.int .i64 ia,.int .i64 ib,.int .i64 ic,.int .i64 id,.string s5,.string s6,.string s7,.slice A8 n8 c8] 74)
 have HA:=aq hab
 have HM0:=aq (hm.below hab hbz)
 have HZ0 : Aside0 ((w.alloc (Obj.cells #[.int .i64 23,.int .i64 ia,.int .i64 ib,.int .i64 ic,.int .i64 id,.string s5,.string s6,.string s7,.slice A8 n8 c8] 74)).heap[w.heap.size]? = some (Obj.cells #[.int .i64 23,.int .i64 ia,.int .i64 ib,.int .i64 ic,.int .i64 id,.string s5,.string s6,.string s7,.slice A8 n8 c8] 74 (0,0))):=⟨World.alloc_heap_new w _⟩
 have HNg : Aside0 (w.heap.size ≠ g):=⟨Nat.ne_of_gt (blk_lt hm.b)⟩
 have HNv : Aside0 (some w.heap.size ≠ v.ownBlock):=⟨fun e => by have:=Kd.R_lt hm.r _ e.symm;omega⟩
 have HBz:=aq hbz
 have HL:=aq hl
 obtain ⟨e9,e10,e11,e12,e13,e14,e15,e16,e17⟩ : w.cell? ⟨g,9,none⟩ = some (.int .i64 23) ∧ w.cell? ⟨g,10,none⟩ = some (.int .i64 ia) ∧ w.cell? ⟨g,11,none⟩ = some (.int .i64 ib) ∧ w.cell? ⟨g,12,none⟩ = some (.int .i64 ic) ∧ w.cell? ⟨g,13,none⟩ = some (.int .i64 id) ∧ w.cell? ⟨g,14,none⟩ = some (.string s5) ∧ w.cell? ⟨g,15,none⟩ = some (.string s6) ∧ w.cell? ⟨g,16,none⟩ = some (.string s7) ∧ w.cell? ⟨g,17,none⟩ = some (.slice A8 n8 c8):=⟨blk_cell hm.b 9,blk_cell hm.b 10,blk_cell hm.b 11,blk_cell hm.b 12,blk_cell hm.b 13,blk_cell hm.b 14,blk_cell hm.b 15,blk_cell hm.b 16,blk_cell hm.b 17⟩
 clear hm hab hbz hl
 go_enter Try.func46,Try.ntmps46
 go_wp2_with fail
 have HM2:=HM0
 have HB2:=aq (HA.out.mono HBz.out)
 have HK2 : Aside0 (Kp w (w.alloc (Obj.cells #[.int .i64 23,.int .i64 ia,.int .i64 ib,.int .i64 ic,.int .i64 id,.string s5,.string s6,.string s7,.slice A8 n8 c8] 74)) g v v):=⟨⟨⟨HA.out.size,fun i hi _ _ => HA.out.block i hi⟩,.inl rfl⟩⟩
 exact bodyPost_end (v:=.tuple #[]) (by simp [results,Try.results46,go_sem]) rfl (by first|exact ⟨rfl,⟨_,HM2.out,HB2.out,HK2.out⟩⟩|exact ⟨_,rfl,HM2.out,HB2.out,HK2.out⟩)
theorem instr_cast (base g : Nat) (a0 a1 a2 a3 a4 : Value) (m : S25) (pc : Int) (ia ib ic id : Int) (s5 s6 s7 : ByteArray) (A8 : Option Addr) (n8 c8 : Nat) (v : Value) (l : List S60) (w : World) (hm : MkOwn w base g a0 a1 a2 a3 a4 m pc (.int .i64 25) (.int .i64 ia) (.int .i64 ib) (.int .i64 ic) (.int .i64 id) (.string s5) (.string s6) (.string s7) (.slice A8 n8 c8) v l) (hl : l.length + 2 ≤ 1048576) (hbz : base ≤ w.heap.size) :
  Calls Try.prog 46 #[.pointer (some ⟨g,0,none⟩)] w fun e w' => ∃ v',e = .returned (.tuple #[]) ∧ MkOwn w' base g a0 a1 a2 a3 a4 m pc (.int .i64 25) (.int .i64 ia) (.int .i64 ib) (.int .i64 ic) (.int .i64 id) (.string s5) (.string s6) (.string s7) (.slice A8 n8 c8) v' (l ++ [(⟨2,pc,(⟨1,m,ia,z44,z46⟩ : S50),(⟨1,m,ib,z44,z46⟩ : S50),⟨m,0,⟨#[]⟩⟩,z44,s5,z25,[]⟩ : S60)]) ∧ Below base w w' ∧ Kp w w' g v v':=by
 have hab:=below_alloc (Below.refl w.heap.size w) (Obj.cells #[.int .i64 25,.int .i64 ia,.int .i64 ib,.int .i64 ic,.int .i64 id,.string s5,.string s6,.string s7,.slice A8 n8 c8] 74)
 have HA:=aq hab
 have HM0:=aq (hm.below hab hbz)
 have HZ0 : Aside0 ((w.alloc (Obj.cells #[.int .i64 25,.int .i64 ia,.int .i64 ib,.int .i64 ic,.int .i64 id,.string s5,.string s6,.string s7,.slice A8 n8 c8] 74)).heap[w.heap.size]? = some (Obj.cells #[.int .i64 25,.int .i64 ia,.int .i64 ib,.int .i64 ic,.int .i64 id,.string s5,.string s6,.string s7,.slice A8 n8 c8] 74 (0,0))):=⟨World.alloc_heap_new w _⟩
 have HNg : Aside0 (w.heap.size ≠ g):=⟨Nat.ne_of_gt (blk_lt hm.b)⟩
 have HNv : Aside0 (some w.heap.size ≠ v.ownBlock):=⟨fun e => by have:=Kd.R_lt hm.r _ e.symm;omega⟩
 have HBz:=aq hbz
 have HL:=aq hl
 obtain ⟨e9,e10,e11,e12,e13,e14,e15,e16,e17⟩ : w.cell? ⟨g,9,none⟩ = some (.int .i64 25) ∧ w.cell? ⟨g,10,none⟩ = some (.int .i64 ia) ∧ w.cell? ⟨g,11,none⟩ = some (.int .i64 ib) ∧ w.cell? ⟨g,12,none⟩ = some (.int .i64 ic) ∧ w.cell? ⟨g,13,none⟩ = some (.int .i64 id) ∧ w.cell? ⟨g,14,none⟩ = some (.string s5) ∧ w.cell? ⟨g,15,none⟩ = some (.string s6) ∧ w.cell? ⟨g,16,none⟩ = some (.string s7) ∧ w.cell? ⟨g,17,none⟩ = some (.slice A8 n8 c8):=⟨blk_cell hm.b 9,blk_cell hm.b 10,blk_cell hm.b 11,blk_cell hm.b 12,blk_cell hm.b 13,blk_cell hm.b 14,blk_cell hm.b 15,blk_cell hm.b 16,blk_cell hm.b 17⟩
 clear hm hab hbz hl
 go_enter Try.func46,Try.ntmps46
 go_wp2_with fail
 clear e9 e10 e11 e12 e13 e14 e15 e16 e17
 have HBX : Aside0 (Below w.heap.size w (w.alloc (Obj.cells #[.int .i64 25,.int .i64 ia,.int .i64 ib,.int .i64 ic,.int .i64 id,.string s5,.string s6,.string s7,.slice A8 n8 c8] 74)).drew):=⟨below_drew1 HA.out⟩
 have HMX : Aside0 (MkOwn (w.alloc (Obj.cells #[.int .i64 25,.int .i64 ia,.int .i64 ib,.int .i64 ic,.int .i64 id,.string s5,.string s6,.string s7,.slice A8 n8 c8] 74)).drew base g a0 a1 a2 a3 a4 m pc (.int .i64 25) (.int .i64 ia) (.int .i64 ib) (.int .i64 ic) (.int .i64 id) (.string s5) (.string s6) (.string s7) (.slice A8 n8 c8) v l):=⟨HM0.out.below (below_drew1 (Below.refl _ _)) (Nat.le_trans HBz.out HA.out.size)⟩
 have HSX : Aside0 (base ≤ (w.alloc (Obj.cells #[.int .i64 25,.int .i64 ia,.int .i64 ib,.int .i64 ic,.int .i64 id,.string s5,.string s6,.string s7,.slice A8 n8 c8] 74)).drew.heap.size):=⟨Nat.le_trans HBz.out HBX.out.size⟩
 have z1 : (w.alloc (Obj.cells #[.int .i64 25,.int .i64 ia,.int .i64 ib,.int .i64 ic,.int .i64 id,.string s5,.string s6,.string s7,.slice A8 n8 c8] 74)).drew.cell? ⟨w.heap.size,1,none⟩ = some (.int .i64 ia):=blk_cell HZ0.out 1
 have z2 : (w.alloc (Obj.cells #[.int .i64 25,.int .i64 ia,.int .i64 ib,.int .i64 ic,.int .i64 id,.string s5,.string s6,.string s7,.slice A8 n8 c8] 74)).drew.cell? ⟨w.heap.size,2,none⟩ = some (.int .i64 ib):=blk_cell HZ0.out 2
 have z5 : (w.alloc (Obj.cells #[.int .i64 25,.int .i64 ia,.int .i64 ib,.int .i64 ic,.int .i64 id,.string s5,.string s6,.string s7,.slice A8 n8 c8] 74)).drew.cell? ⟨w.heap.size,5,none⟩ = some (.string s5):=blk_cell HZ0.out 5
 refine start_ (n:=12) (S:=fun w' => w'.cell? ⟨w.heap.size,1,none⟩ = some (.int .i64 ia) ∧ w'.cell? ⟨w.heap.size,2,none⟩ = some (.int .i64 ib) ∧ w'.cell? ⟨w.heap.size,5,none⟩ = some (.string s5)) (ds:=[11]) (Array.replicate 12 false) (by kernel_rfl) rfl rfl ⟨z1,z2,z5⟩ (fun hHeld => ?_)
 generalize (w.alloc (Obj.cells #[.int .i64 25,.int .i64 ia,.int .i64 ib,.int .i64 ic,.int .i64 id,.string s5,.string s6,.string s7,.slice A8 n8 c8] 74)).drew = X at HMX HSX HBX z1 z2 z5 hHeld ⊢
 refine sP (i:=0) (N:=some 23) ?_
 refine sP (i:=1) (N:=some 24) ?_
 refine sP (i:=2) (N:=some 25) ?_
 refine sP (i:=5) (N:=some 28) ?_
 refine sP (i:=6) (N:=some 29) ?_
 refine sP (i:=9) (N:=some 32) ?_
 refine sT (i:=3) (N:=some 26) hHeld ?_
 refine sT (i:=7) (N:=some 30) hHeld ?_
 refine sT (i:=10) (N:=some 33) hHeld ?_
 refine sO (i:=4) (N:=some 27) fun K hK => ?_
 refine sG Try.func38 #[.pointer (some ⟨g,0,none⟩),.int .i64 ia] ?_
 refine (maker_reg g a0 a1 a2 a3 a4 m pc (.int .i64 25) (.int .i64 ia) (.int .i64 ib) (.int .i64 ic) (.int .i64 id) (.string s5) (.string s6) (.string s7) (.slice A8 n8 c8) v ia X HMX.out.b).mono ?_
 rintro e w1 ⟨rfl,hb⟩
 refine ⟨_,rfl,?_⟩
 have y1:=sC hb z1
 have y2:=sC hb z2
 have y5:=sC hb z5
 have HM1:=aq (HMX.out.below hb HSX.out)
 have HB1:=aq hb
 clear hb
 refine hK.out _ _ ⟨y1,y2,y5⟩ (fun hHeld => ?_)
 clear hK K
 refine sN ?_
 refine sO (i:=8) (N:=some 31) fun K hK => ?_
 refine sG Try.func38 #[.pointer (some ⟨g,0,none⟩),.int .i64 ib] ?_
 refine (maker_reg g a0 a1 a2 a3 a4 m pc (.int .i64 25) (.int .i64 ia) (.int .i64 ib) (.int .i64 ic) (.int .i64 id) (.string s5) (.string s6) (.string s7) (.slice A8 n8 c8) v ib w1 HM1.out.b).mono ?_
 rintro e w2 ⟨rfl,hb⟩
 refine ⟨_,rfl,?_⟩
 have x1:=sC hb y1
 have x2:=sC hb y2
 have x5:=sC hb y5
 have HM2:=aq (HM1.out.below hb (Nat.le_trans HSX.out HB1.out.size))
 have HB2:=aq (below_step HB1.out hb)
 clear hb
 refine hK.out _ _ ⟨x1,x2,x5⟩ (fun hHeld => ?_)
 clear hK K
 refine sN ?_
 refine sX (i:=11) (N:=some 34) fun K hK => ?_
 refine sG Try.func37 #[.pointer (some ⟨g,0,none⟩),.agg (List.toArray (qR 1 m ia [])),.agg (List.toArray (qR 1 m ib [])),.string s5] ?_
 refine (maker_flows base g a0 a1 a2 a3 a4 m pc (.int .i64 25) (.int .i64 ia) (.int .i64 ib) (.int .i64 ic) (.int .i64 id) (.string s5) (.string s6) (.string s7) (.slice A8 n8 c8) v l (⟨1,m,ia,z44,z46⟩ : S50) (⟨1,m,ib,z44,z46⟩ : S50) s5 w2 HM2.out (by have:=HL.out;omega) (Nat.le_trans HSX.out HB2.out.size)).mono ?_
 rintro e w3 ⟨v3,rfl,hm3,hb3,hk3⟩
 refine ⟨_,rfl,?_⟩
 have HM3:=aq hm3
 have HB3:=aq ((HBX.out.mono HBz.out).trans ((HB2.out.mono HSX.out).trans hb3))
 have HK3:=aq (Kp.pre HBX.out (Kp.pre HB2.out hk3))
 clear hm3 hb3 hk3
 refine hK.out _ _ ?_
 clear hK K
 refine sN ?_
 refine done_ (by kernel_rfl) ?_
 go_wp2_with fail
 exact bodyPost_end (v:=.tuple #[]) (by simp [results,Try.results46,go_sem]) rfl (by first|exact ⟨rfl,⟨_,HM3.out,HB3.out,HK3.out⟩⟩|exact ⟨_,rfl,HM3.out,HB3.out,HK3.out⟩)
end Go.Proofs.Ytfplcohjnlbfjaa.Hand
end

section
namespace Go.Proofs.Ytfplcohjnlbfjaa.Hand
open Go.RowKit Go.Proofs.YtfplcohjnlbfjaaW
open PrintWords PrintLast PrintMore
def Puts (a0 a1 a2 a3 a4 : Value) (m : S25) (pc : Int) (x : S74) (ins : List S60) : Prop :=
 ∀ (g : Nat) (A8 : Option Addr) (c8 : Nat) (v : Value) (l : List S60) (W : World),MkOwn W g g a0 a1 a2 a3 a4 m pc (.int .i64 x.f0) (.int .i64 x.f1) (.int .i64 x.f2) (.int .i64 x.f3) (.int .i64 x.f4) (.string x.f5) (.string x.f6) (.string x.f7) (.slice A8 x.f8.length c8) v l → Kd.C (Kd.int .i64) W A8 x.f8.length x.f8 → x.f8.length ≤ c8 → l.length + 2 ≤ 1048576 → g ≤ W.heap.size →
  Calls Try.prog 46 #[.pointer (some ⟨g,0,none⟩)] W fun e w' => ∃ v',e = .returned (.tuple #[]) ∧ MkOwn w' g g a0 a1 a2 a3 a4 m pc (.int .i64 x.f0) (.int .i64 x.f1) (.int .i64 x.f2) (.int .i64 x.f3) (.int .i64 x.f4) (.string x.f5) (.string x.f6) (.string x.f7) (.slice A8 x.f8.length c8) v' (l ++ ins) ∧ Below g W w'
def allOf (ins : Nat → List S60) (n : Nat) : List S60 := (List.range n).flatMap ins
theorem allOf_succ (ins : Nat → List S60) (n : Nat) : allOf ins (n + 1) = allOf ins n ++ ins n := by
 unfold allOf
 rw [List.range_succ,List.flatMap_append]
 simp
theorem MkOwn.next {w : World} {base g : Nat} {a0 a1 a2 a3 a4 : Value} {m : S25} {pc : Int} {b0 b1 b2 b3 b4 b5 b6 b7 b8 : Value} {v : Value} {l : List S60} (h : MkOwn w base g a0 a1 a2 a3 a4 m pc b0 b1 b2 b3 b4 b5 b6 b7 b8 v l) (pc' : Int) (u0 u1 u2 u3 u4 u5 u6 u7 u8 : Value) : MkOwn ((((((((((w.setCell ⟨g, 8, none⟩ (.int .i64 pc')).setCell ⟨g, 9, none⟩ (u0)).setCell ⟨g, 10, none⟩ (u1)).setCell ⟨g, 11, none⟩ (u2)).setCell ⟨g, 12, none⟩ (u3)).setCell ⟨g, 13, none⟩ (u4)).setCell ⟨g, 14, none⟩ (u5)).setCell ⟨g, 15, none⟩ (u6)).setCell ⟨g, 16, none⟩ (u7)).setCell ⟨g, 17, none⟩ (u8)) base g a0 a1 a2 a3 a4 m pc' u0 u1 u2 u3 u4 u5 u6 u7 u8 v l := ⟨(blk_put (cs := #[a0, a1, a2, a3, a4, .string m.f0, .string m.f1, .string m.f2, .int .i64 pc', u0, u1, u2, u3, u4, u5, u6, u7, b8, v]) (blk_put (cs := #[a0, a1, a2, a3, a4, .string m.f0, .string m.f1, .string m.f2, .int .i64 pc', u0, u1, u2, u3, u4, u5, u6, b7, b8, v]) (blk_put (cs := #[a0, a1, a2, a3, a4, .string m.f0, .string m.f1, .string m.f2, .int .i64 pc', u0, u1, u2, u3, u4, u5, b6, b7, b8, v]) (blk_put (cs := #[a0, a1, a2, a3, a4, .string m.f0, .string m.f1, .string m.f2, .int .i64 pc', u0, u1, u2, u3, u4, b5, b6, b7, b8, v]) (blk_put (cs := #[a0, a1, a2, a3, a4, .string m.f0, .string m.f1, .string m.f2, .int .i64 pc', u0, u1, u2, u3, b4, b5, b6, b7, b8, v]) (blk_put (cs := #[a0, a1, a2, a3, a4, .string m.f0, .string m.f1, .string m.f2, .int .i64 pc', u0, u1, u2, b3, b4, b5, b6, b7, b8, v]) (blk_put (cs := #[a0, a1, a2, a3, a4, .string m.f0, .string m.f1, .string m.f2, .int .i64 pc', u0, u1, b2, b3, b4, b5, b6, b7, b8, v]) (blk_put (cs := #[a0, a1, a2, a3, a4, .string m.f0, .string m.f1, .string m.f2, .int .i64 pc', u0, b1, b2, b3, b4, b5, b6, b7, b8, v]) (blk_put (cs := #[a0, a1, a2, a3, a4, .string m.f0, .string m.f1, .string m.f2, .int .i64 pc', b0, b1, b2, b3, b4, b5, b6, b7, b8, v]) (blk_put (cs := #[a0, a1, a2, a3, a4, .string m.f0, .string m.f1, .string m.f2, .int .i64 pc, b0, b1, b2, b3, b4, b5, b6, b7, b8, v]) h.b 8 (.int .i64 pc') rfl) 9 (u0) rfl) 10 (u1) rfl) 11 (u2) rfl) 12 (u3) rfl) 13 (u4) rfl) 14 (u5) rfl) 15 (u6) rfl) 16 (u7) rfl) 17 (u8) rfl), h.hb, (Kd.R_set (Kd.R_set (Kd.R_set (Kd.R_set (Kd.R_set (Kd.R_set (Kd.R_set (Kd.R_set (Kd.R_set (Kd.R_set h.r h.b (by decide) 8 (.int .i64 pc')) (blk_put (cs := #[a0, a1, a2, a3, a4, .string m.f0, .string m.f1, .string m.f2, .int .i64 pc, b0, b1, b2, b3, b4, b5, b6, b7, b8, v]) h.b 8 (.int .i64 pc') rfl) (by decide) 9 (u0)) (blk_put (cs := #[a0, a1, a2, a3, a4, .string m.f0, .string m.f1, .string m.f2, .int .i64 pc', b0, b1, b2, b3, b4, b5, b6, b7, b8, v]) (blk_put (cs := #[a0, a1, a2, a3, a4, .string m.f0, .string m.f1, .string m.f2, .int .i64 pc, b0, b1, b2, b3, b4, b5, b6, b7, b8, v]) h.b 8 (.int .i64 pc') rfl) 9 (u0) rfl) (by decide) 10 (u1)) (blk_put (cs := #[a0, a1, a2, a3, a4, .string m.f0, .string m.f1, .string m.f2, .int .i64 pc', u0, b1, b2, b3, b4, b5, b6, b7, b8, v]) (blk_put (cs := #[a0, a1, a2, a3, a4, .string m.f0, .string m.f1, .string m.f2, .int .i64 pc', b0, b1, b2, b3, b4, b5, b6, b7, b8, v]) (blk_put (cs := #[a0, a1, a2, a3, a4, .string m.f0, .string m.f1, .string m.f2, .int .i64 pc, b0, b1, b2, b3, b4, b5, b6, b7, b8, v]) h.b 8 (.int .i64 pc') rfl) 9 (u0) rfl) 10 (u1) rfl) (by decide) 11 (u2)) (blk_put (cs := #[a0, a1, a2, a3, a4, .string m.f0, .string m.f1, .string m.f2, .int .i64 pc', u0, u1, b2, b3, b4, b5, b6, b7, b8, v]) (blk_put (cs := #[a0, a1, a2, a3, a4, .string m.f0, .string m.f1, .string m.f2, .int .i64 pc', u0, b1, b2, b3, b4, b5, b6, b7, b8, v]) (blk_put (cs := #[a0, a1, a2, a3, a4, .string m.f0, .string m.f1, .string m.f2, .int .i64 pc', b0, b1, b2, b3, b4, b5, b6, b7, b8, v]) (blk_put (cs := #[a0, a1, a2, a3, a4, .string m.f0, .string m.f1, .string m.f2, .int .i64 pc, b0, b1, b2, b3, b4, b5, b6, b7, b8, v]) h.b 8 (.int .i64 pc') rfl) 9 (u0) rfl) 10 (u1) rfl) 11 (u2) rfl) (by decide) 12 (u3)) (blk_put (cs := #[a0, a1, a2, a3, a4, .string m.f0, .string m.f1, .string m.f2, .int .i64 pc', u0, u1, u2, b3, b4, b5, b6, b7, b8, v]) (blk_put (cs := #[a0, a1, a2, a3, a4, .string m.f0, .string m.f1, .string m.f2, .int .i64 pc', u0, u1, b2, b3, b4, b5, b6, b7, b8, v]) (blk_put (cs := #[a0, a1, a2, a3, a4, .string m.f0, .string m.f1, .string m.f2, .int .i64 pc', u0, b1, b2, b3, b4, b5, b6, b7, b8, v]) (blk_put (cs := #[a0, a1, a2, a3, a4, .string m.f0, .string m.f1, .string m.f2, .int .i64 pc', b0, b1, b2, b3, b4, b5, b6, b7, b8, v]) (blk_put (cs := #[a0, a1, a2, a3, a4, .string m.f0, .string m.f1, .string m.f2, .int .i64 pc, b0, b1, b2, b3, b4, b5, b6, b7, b8, v]) h.b 8 (.int .i64 pc') rfl) 9 (u0) rfl) 10 (u1) rfl) 11 (u2) rfl) 12 (u3) rfl) (by decide) 13 (u4)) (blk_put (cs := #[a0, a1, a2, a3, a4, .string m.f0, .string m.f1, .string m.f2, .int .i64 pc', u0, u1, u2, u3, b4, b5, b6, b7, b8, v]) (blk_put (cs := #[a0, a1, a2, a3, a4, .string m.f0, .string m.f1, .string m.f2, .int .i64 pc', u0, u1, u2, b3, b4, b5, b6, b7, b8, v]) (blk_put (cs := #[a0, a1, a2, a3, a4, .string m.f0, .string m.f1, .string m.f2, .int .i64 pc', u0, u1, b2, b3, b4, b5, b6, b7, b8, v]) (blk_put (cs := #[a0, a1, a2, a3, a4, .string m.f0, .string m.f1, .string m.f2, .int .i64 pc', u0, b1, b2, b3, b4, b5, b6, b7, b8, v]) (blk_put (cs := #[a0, a1, a2, a3, a4, .string m.f0, .string m.f1, .string m.f2, .int .i64 pc', b0, b1, b2, b3, b4, b5, b6, b7, b8, v]) (blk_put (cs := #[a0, a1, a2, a3, a4, .string m.f0, .string m.f1, .string m.f2, .int .i64 pc, b0, b1, b2, b3, b4, b5, b6, b7, b8, v]) h.b 8 (.int .i64 pc') rfl) 9 (u0) rfl) 10 (u1) rfl) 11 (u2) rfl) 12 (u3) rfl) 13 (u4) rfl) (by decide) 14 (u5)) (blk_put (cs := #[a0, a1, a2, a3, a4, .string m.f0, .string m.f1, .string m.f2, .int .i64 pc', u0, u1, u2, u3, u4, b5, b6, b7, b8, v]) (blk_put (cs := #[a0, a1, a2, a3, a4, .string m.f0, .string m.f1, .string m.f2, .int .i64 pc', u0, u1, u2, u3, b4, b5, b6, b7, b8, v]) (blk_put (cs := #[a0, a1, a2, a3, a4, .string m.f0, .string m.f1, .string m.f2, .int .i64 pc', u0, u1, u2, b3, b4, b5, b6, b7, b8, v]) (blk_put (cs := #[a0, a1, a2, a3, a4, .string m.f0, .string m.f1, .string m.f2, .int .i64 pc', u0, u1, b2, b3, b4, b5, b6, b7, b8, v]) (blk_put (cs := #[a0, a1, a2, a3, a4, .string m.f0, .string m.f1, .string m.f2, .int .i64 pc', u0, b1, b2, b3, b4, b5, b6, b7, b8, v]) (blk_put (cs := #[a0, a1, a2, a3, a4, .string m.f0, .string m.f1, .string m.f2, .int .i64 pc', b0, b1, b2, b3, b4, b5, b6, b7, b8, v]) (blk_put (cs := #[a0, a1, a2, a3, a4, .string m.f0, .string m.f1, .string m.f2, .int .i64 pc, b0, b1, b2, b3, b4, b5, b6, b7, b8, v]) h.b 8 (.int .i64 pc') rfl) 9 (u0) rfl) 10 (u1) rfl) 11 (u2) rfl) 12 (u3) rfl) 13 (u4) rfl) 14 (u5) rfl) (by decide) 15 (u6)) (blk_put (cs := #[a0, a1, a2, a3, a4, .string m.f0, .string m.f1, .string m.f2, .int .i64 pc', u0, u1, u2, u3, u4, u5, b6, b7, b8, v]) (blk_put (cs := #[a0, a1, a2, a3, a4, .string m.f0, .string m.f1, .string m.f2, .int .i64 pc', u0, u1, u2, u3, u4, b5, b6, b7, b8, v]) (blk_put (cs := #[a0, a1, a2, a3, a4, .string m.f0, .string m.f1, .string m.f2, .int .i64 pc', u0, u1, u2, u3, b4, b5, b6, b7, b8, v]) (blk_put (cs := #[a0, a1, a2, a3, a4, .string m.f0, .string m.f1, .string m.f2, .int .i64 pc', u0, u1, u2, b3, b4, b5, b6, b7, b8, v]) (blk_put (cs := #[a0, a1, a2, a3, a4, .string m.f0, .string m.f1, .string m.f2, .int .i64 pc', u0, u1, b2, b3, b4, b5, b6, b7, b8, v]) (blk_put (cs := #[a0, a1, a2, a3, a4, .string m.f0, .string m.f1, .string m.f2, .int .i64 pc', u0, b1, b2, b3, b4, b5, b6, b7, b8, v]) (blk_put (cs := #[a0, a1, a2, a3, a4, .string m.f0, .string m.f1, .string m.f2, .int .i64 pc', b0, b1, b2, b3, b4, b5, b6, b7, b8, v]) (blk_put (cs := #[a0, a1, a2, a3, a4, .string m.f0, .string m.f1, .string m.f2, .int .i64 pc, b0, b1, b2, b3, b4, b5, b6, b7, b8, v]) h.b 8 (.int .i64 pc') rfl) 9 (u0) rfl) 10 (u1) rfl) 11 (u2) rfl) 12 (u3) rfl) 13 (u4) rfl) 14 (u5) rfl) 15 (u6) rfl) (by decide) 16 (u7)) (blk_put (cs := #[a0, a1, a2, a3, a4, .string m.f0, .string m.f1, .string m.f2, .int .i64 pc', u0, u1, u2, u3, u4, u5, u6, b7, b8, v]) (blk_put (cs := #[a0, a1, a2, a3, a4, .string m.f0, .string m.f1, .string m.f2, .int .i64 pc', u0, u1, u2, u3, u4, u5, b6, b7, b8, v]) (blk_put (cs := #[a0, a1, a2, a3, a4, .string m.f0, .string m.f1, .string m.f2, .int .i64 pc', u0, u1, u2, u3, u4, b5, b6, b7, b8, v]) (blk_put (cs := #[a0, a1, a2, a3, a4, .string m.f0, .string m.f1, .string m.f2, .int .i64 pc', u0, u1, u2, u3, b4, b5, b6, b7, b8, v]) (blk_put (cs := #[a0, a1, a2, a3, a4, .string m.f0, .string m.f1, .string m.f2, .int .i64 pc', u0, u1, u2, b3, b4, b5, b6, b7, b8, v]) (blk_put (cs := #[a0, a1, a2, a3, a4, .string m.f0, .string m.f1, .string m.f2, .int .i64 pc', u0, u1, b2, b3, b4, b5, b6, b7, b8, v]) (blk_put (cs := #[a0, a1, a2, a3, a4, .string m.f0, .string m.f1, .string m.f2, .int .i64 pc', u0, b1, b2, b3, b4, b5, b6, b7, b8, v]) (blk_put (cs := #[a0, a1, a2, a3, a4, .string m.f0, .string m.f1, .string m.f2, .int .i64 pc', b0, b1, b2, b3, b4, b5, b6, b7, b8, v]) (blk_put (cs := #[a0, a1, a2, a3, a4, .string m.f0, .string m.f1, .string m.f2, .int .i64 pc, b0, b1, b2, b3, b4, b5, b6, b7, b8, v]) h.b 8 (.int .i64 pc') rfl) 9 (u0) rfl) 10 (u1) rfl) 11 (u2) rfl) 12 (u3) rfl) 13 (u4) rfl) 14 (u5) rfl) 15 (u6) rfl) 16 (u7) rfl) (by decide) 17 (u8))⟩
theorem gen_of (P : Nat → Prop) (A0 : Option Addr) (c0 : Nat) (l0 : List S33) (A1 : Option Addr) (c1 : Nat) (l1 : List ByteArray) (a2 a3 a4 b0 b1 b2 : ByteArray) (w : World) (hs : Kd.F k33 w P A0 l0.length l0) (hc : l0.length ≤ c0) (hr1 : Kd.C Kd.string w A1 l1.length l1) (hc1 : l1.length ≤ c1)
  (ins : Nat → List S60) (hput : ∀ i (h : i < (getM l0 b0 b1 b2).f5.length),Puts (.slice A0 l0.length c0) (.slice A1 l1.length c1) (.string a2) (.string a3) (.string a4) ⟨b0,b1,b2⟩ (i : Int) ((getM l0 b0 b1 b2).f5[i]) (ins i)) (hlen : ∀ i,i ≤ (getM l0 b0 b1 b2).f5.length → (allOf ins i).length + 2 ≤ 1048576) :
  Calls Try.prog 29 #[.agg (pG A0 l0 c0 A1 l1 c1 a2 a3 a4),.agg #[.string b0,.string b1,.string b2]] w fun e w' => ∃ v',e = .returned v' ∧ Kd.R k60 60 w' w.heap.size (fun _ => True) v' (allOf ins (getM l0 b0 b1 b2).f5.length) ∧ Below w.heap.size w w':=by
 have hb0:=below_alloc (below_alloc (Below.refl w.heap.size w) (Obj.cells (pG A0 l0 c0 A1 l1 c1 a2 a3 a4) 27)) (Obj.cells #[.string b0,.string b1,.string b2] 25)
 have HG:=aq (find_get P A0 c0 l0 A1 c1 l1 a2 a3 a4 b0 b1 b2 ((w.alloc (Obj.cells (pG A0 l0 c0 A1 l1 c1 a2 a3 a4) 27)).alloc (Obj.cells #[.string b0,.string b1,.string b2] 25)) (Kd.F_below hs hb0) hc (Kd.C_below hr1 hb0) hc1)
 have HB0:=aq hb0
 have hp:=blk_alloc (World.alloc_heap_new w (Obj.cells (pG A0 l0 c0 A1 l1 c1 a2 a3 a4) 27)) (Obj.cells #[.string b0,.string b1,.string b2] 25)
 have hq:=World.alloc_heap_new (w.alloc (Obj.cells (pG A0 l0 c0 A1 l1 c1 a2 a3 a4) 27)) (Obj.cells #[.string b0,.string b1,.string b2] 25)
 rw [World.size_alloc] at hq
 have HP:=aq hp
 have HQ:=aq hq
 have HPT:=aq hput
 have HLE:=aq hlen
 clear hs hr1 hb0 hp hq hput hlen
 go_enter Try.func29,Try.ntmps29
 go_wp2_with fail
 refine HG.out.mono ?_
 rintro e w1 ⟨A5,c5,rfl,hfk,hb⟩
 obtain ⟨hc5,hF⟩:=method_code hfk
 have HCD:=aq (Kd.F_now hF)
 have HC5:=aq hc5
 have HB1:=aq (below_step HB0.out hb)
 have HP1:=aq (blk_below HP.out hb)
 have HQ1:=aq (blk_below HQ.out hb)
 clear hfk hb hF hc5
 have HPm:=aq (blk_alloc HP1.out (Obj.cells (zH (getM l0 b0 b1 b2) A5 c5) 37))
 have HQm:=aq (blk_alloc HQ1.out (Obj.cells (zH (getM l0 b0 b1 b2) A5 c5) 37))
 have hd:=blk_alloc (World.alloc_heap_new w1 (Obj.cells (zH (getM l0 b0 b1 b2) A5 c5) 37)) (Obj.cells #[.slice A0 l0.length c0,.slice A1 l1.length c1,.string a2,.string a3,.string a4,.string b0,.string b1,.string b2,.int .i64 0,.int .i64 0,.int .i64 0,.int .i64 0,.int .i64 0,.int .i64 0,.string ⟨#[]⟩,.string ⟨#[]⟩,.string ⟨#[]⟩,.slice none 0 0,.slice none 0 0] 85)
 have hk:=World.alloc_heap_new (w1.alloc (Obj.cells (zH (getM l0 b0 b1 b2) A5 c5) 37)) (Obj.cells #[.slice A0 l0.length c0,.slice A1 l1.length c1,.string a2,.string a3,.string a4,.string b0,.string b1,.string b2,.int .i64 0,.int .i64 0,.int .i64 0,.int .i64 0,.int .i64 0,.int .i64 0,.string ⟨#[]⟩,.string ⟨#[]⟩,.string ⟨#[]⟩,.slice none 0 0,.slice none 0 0] 85)
 rw [World.size_alloc] at hk
 obtain ⟨n,hn⟩ : ∃ n,n = (getM l0 b0 b1 b2).f5.length:=⟨_,rfl⟩
 have HMK : Aside0 (MkOwn ((w1.alloc (Obj.cells (zH (getM l0 b0 b1 b2) A5 c5) 37)).alloc (Obj.cells #[.slice A0 l0.length c0,.slice A1 l1.length c1,.string a2,.string a3,.string a4,.string b0,.string b1,.string b2,.int .i64 0,.int .i64 0,.int .i64 0,.int .i64 0,.int .i64 0,.int .i64 0,.string ⟨#[]⟩,.string ⟨#[]⟩,.string ⟨#[]⟩,.slice none 0 0,.slice none 0 0] 85)) (w1.heap.size + 1) (w1.heap.size + 1) (.slice A0 l0.length c0) (.slice A1 l1.length c1) (.string a2) (.string a3) (.string a4) ⟨b0,b1,b2⟩ 0 (.int .i64 0) (.int .i64 0) (.int .i64 0) (.int .i64 0) (.int .i64 0) (.string ⟨#[]⟩) (.string ⟨#[]⟩) (.string ⟨#[]⟩) (.slice none 0 0) (.slice none 0 0) []):=⟨⟨hk,Nat.le_refl _,Kd.R_nil _ _ _ _ _⟩⟩
 have HBC:=aq (below_alloc (below_alloc (Below.refl w1.heap.size w1) (Obj.cells (zH (getM l0 b0 b1 b2) A5 c5) 37)) (Obj.cells #[.slice A0 l0.length c0,.slice A1 l1.length c1,.string a2,.string a3,.string a4,.string b0,.string b1,.string b2,.int .i64 0,.int .i64 0,.int .i64 0,.int .i64 0,.int .i64 0,.int .i64 0,.string ⟨#[]⟩,.string ⟨#[]⟩,.string ⟨#[]⟩,.slice none 0 0,.slice none 0 0] 85))
 have d5 : ((w1.alloc (Obj.cells (zH (getM l0 b0 b1 b2) A5 c5) 37)).alloc (Obj.cells #[.slice A0 l0.length c0,.slice A1 l1.length c1,.string a2,.string a3,.string a4,.string b0,.string b1,.string b2,.int .i64 0,.int .i64 0,.int .i64 0,.int .i64 0,.int .i64 0,.int .i64 0,.string ⟨#[]⟩,.string ⟨#[]⟩,.string ⟨#[]⟩,.slice none 0 0,.slice none 0 0] 85)).cell? ⟨w1.heap.size,5,none⟩ = some (.slice A5 (getM l0 b0 b1 b2).f5.length c5):=blk_cell hd 5
 have HSZ : Aside0 (((w1.alloc (Obj.cells (zH (getM l0 b0 b1 b2) A5 c5) 37)).alloc (Obj.cells #[.slice A0 l0.length c0,.slice A1 l1.length c1,.string a2,.string a3,.string a4,.string b0,.string b1,.string b2,.int .i64 0,.int .i64 0,.int .i64 0,.int .i64 0,.int .i64 0,.int .i64 0,.string ⟨#[]⟩,.string ⟨#[]⟩,.string ⟨#[]⟩,.slice none 0 0,.slice none 0 0] 85)).heap.size = w1.heap.size + 2):=⟨by rw [World.size_alloc,World.size_alloc]⟩
 clear hk hd
 obtain ⟨p0,p1,p2,p3,p4⟩:=cells5 HPm.out
 obtain ⟨q0,q1,q2⟩:=cells3 HQm.out
 go_wp2_with fail
 clear p0 p1 p2 p3 p4 q0 q1 q2 d5
 generalize (w1.alloc (Obj.cells (zH (getM l0 b0 b1 b2) A5 c5) 37)).alloc (Obj.cells #[.slice A0 l0.length c0,.slice A1 l1.length c1,.string a2,.string a3,.string a4,.string b0,.string b1,.string b2,.int .i64 0,.int .i64 0,.int .i64 0,.int .i64 0,.int .i64 0,.int .i64 0,.string ⟨#[]⟩,.string ⟨#[]⟩,.string ⟨#[]⟩,.slice none 0 0,.slice none 0 0] 85) = W2 at HMK HBC HSZ ⊢
 obtain ⟨G,hG⟩ : ∃ G,G = w1.heap.size + 1:=⟨_,rfl⟩
 rw [← hG] at HMK ⊢
 have HG1 : Aside0 (w1.heap.size ≤ G ∧ W2.heap.size = G + 1):=⟨by have:=HSZ.out;omega⟩
 rw [← hn]
 have HNN:=aq hn
 clear hG HSZ hn
 go_loopg [21] n (fun kq v21 wr => ∃ (i : Nat) (pcv : Int) (t0 t1 t2 t3 t4 t5 t6 t7 t8 v : Value),v21 = .int .i64 (i : Int) ∧ i + kq = n ∧ Aside0 (MkOwn wr G G (.slice A0 l0.length c0) (.slice A1 l1.length c1) (.string a2) (.string a3) (.string a4) ⟨b0,b1,b2⟩ pcv t0 t1 t2 t3 t4 t5 t6 t7 t8 v (allOf ins i)) ∧ Aside0 (Below G W2 wr))
 case atStart => exact ⟨0,0,.int .i64 0,.int .i64 0,.int .i64 0,.int .i64 0,.int .i64 0,.string ⟨#[]⟩,.string ⟨#[]⟩,.string ⟨#[]⟩,.slice none 0 0,.slice none 0 0,rfl,by omega,HMK,⟨Below.refl _ _⟩⟩
 case round =>
  obtain ⟨i,pcv,t0,t1,t2,t3,t4,t5,t6,t7,t8,v,rfl,hi,HM,HBL⟩:=hrel
  have HBR : Aside0 (Below w1.heap.size w1 wr):=⟨HBC.out.trans (HBL.out.mono HG1.out.1)⟩
  by_cases hlt : i < n
  ·
   have hltX : i < (getM l0 b0 b1 b2).f5.length:=by rw [← HNN.out];exact hlt
   obtain ⟨ad,A8,c8,hA,h0,h1,h2,h3,h4,h5,h6,h7,h8,hl8,hC8⟩:=at_T74 HCD.out (i : Int) (by omega) (Int.ofNat_lt.2 hltX)
   have hx : rd_T74 (getM l0 b0 b1 b2).f5 (i : Int) = (getM l0 b0 b1 b2).f5[i]:=by
    unfold rd_T74
    rw [Int.toNat_natCast,List.getD_eq_getElem?_getD,List.getElem?_eq_getElem hltX]
    rfl
   have HPI:=aq (HPT.out i hltX)
   rw [hx,Int.toNat_natCast] at h0 h1 h2 h3 h4 h5 h6 h7 h8
   rw [hx] at hl8 hC8
   obtain ⟨y,hy⟩ : ∃ y,(getM l0 b0 b1 b2).f5[i] = y:=⟨_,rfl⟩
   rw [hy] at HPI h0 h1 h2 h3 h4 h5 h6 h7 h8 hl8 hC8
   subst hA
   replace h0:=sC HBR.out h0
   replace h1:=sC HBR.out h1
   replace h2:=sC HBR.out h2
   replace h3:=sC HBR.out h3
   replace h4:=sC HBR.out h4
   replace h5:=sC HBR.out h5
   replace h6:=sC HBR.out h6
   replace h7:=sC HBR.out h7
   replace h8:=sC HBR.out h8
   obtain ⟨s8,s9,s10,s11,s12,s13,s14,s15,s16,s17⟩ : wr.cell? ⟨G,8,none⟩ = some (.int .i64 pcv) ∧ wr.cell? ⟨G,9,none⟩ = some (t0) ∧ wr.cell? ⟨G,10,none⟩ = some (t1) ∧ wr.cell? ⟨G,11,none⟩ = some (t2) ∧ wr.cell? ⟨G,12,none⟩ = some (t3) ∧ wr.cell? ⟨G,13,none⟩ = some (t4) ∧ wr.cell? ⟨G,14,none⟩ = some (t5) ∧ wr.cell? ⟨G,15,none⟩ = some (t6) ∧ wr.cell? ⟨G,16,none⟩ = some (t7) ∧ wr.cell? ⟨G,17,none⟩ = some (t8):=⟨blk_cell HM.out.b 8,blk_cell HM.out.b 9,blk_cell HM.out.b 10,blk_cell HM.out.b 11,blk_cell HM.out.b 12,blk_cell HM.out.b 13,blk_cell HM.out.b 14,blk_cell HM.out.b 15,blk_cell HM.out.b 16,blk_cell HM.out.b 17⟩
   have hfg:=blk_frozen HM.out.b
   have HN:=aq (HM.out.next (i : Int) (.int .i64 y.f0) (.int .i64 y.f1) (.int .i64 y.f2) (.int .i64 y.f3) (.int .i64 y.f4) (.string y.f5) (.string y.f6) (.string y.f7) (.slice A8 y.f8.length c8))
   have HBS:=aq (show Below w1.heap.size w1 ((((((((((wr.setCell ⟨G,8,none⟩ (.int .i64 (i : Int))).setCell ⟨G,9,none⟩ (.int .i64 y.f0)).setCell ⟨G,10,none⟩ (.int .i64 y.f1)).setCell ⟨G,11,none⟩ (.int .i64 y.f2)).setCell ⟨G,12,none⟩ (.int .i64 y.f3)).setCell ⟨G,13,none⟩ (.int .i64 y.f4)).setCell ⟨G,14,none⟩ (.string y.f5)).setCell ⟨G,15,none⟩ (.string y.f6)).setCell ⟨G,16,none⟩ (.string y.f7)).setCell ⟨G,17,none⟩ (.slice A8 y.f8.length c8)) from ((((((((((HBR.out.setCell HG1.out.1 _).setCell HG1.out.1 _).setCell HG1.out.1 _).setCell HG1.out.1 _).setCell HG1.out.1 _).setCell HG1.out.1 _).setCell HG1.out.1 _).setCell HG1.out.1 _).setCell HG1.out.1 _).setCell HG1.out.1 _))
   have HBT:=aq (show Below G W2 ((((((((((wr.setCell ⟨G,8,none⟩ (.int .i64 (i : Int))).setCell ⟨G,9,none⟩ (.int .i64 y.f0)).setCell ⟨G,10,none⟩ (.int .i64 y.f1)).setCell ⟨G,11,none⟩ (.int .i64 y.f2)).setCell ⟨G,12,none⟩ (.int .i64 y.f3)).setCell ⟨G,13,none⟩ (.int .i64 y.f4)).setCell ⟨G,14,none⟩ (.string y.f5)).setCell ⟨G,15,none⟩ (.string y.f6)).setCell ⟨G,16,none⟩ (.string y.f7)).setCell ⟨G,17,none⟩ (.slice A8 y.f8.length c8)) from ((((((((((HBL.out.setCell (Nat.le_refl _) _).setCell (Nat.le_refl _) _).setCell (Nat.le_refl _) _).setCell (Nat.le_refl _) _).setCell (Nat.le_refl _) _).setCell (Nat.le_refl _) _).setCell (Nat.le_refl _) _).setCell (Nat.le_refl _) _).setCell (Nat.le_refl _) _).setCell (Nat.le_refl _) _))
   have HL8:=aq hl8
   have HC8:=aq hC8
   have HLI:=aq (HLE.out i (Nat.le_of_lt hltX))
   have hd : decide ((i : Int) < (n : Int)) = true:=decide_eq_true (by omega)
   have hi0 : (0 : Int) ≤ (i : Int):=by omega
   have hi1 : (i : Int) < (n : Int):=by omega
   have HLT:=aq hlt
   clear hx hy hl8 hC8 hltX
   go_wp2_with fail
   refine (HPI.out G A8 c8 v (allOf ins i) _ HN.out (Kd.C_below HC8.out HBS.out) HL8.out HLI.out (Nat.le_trans (by have:=HG1.out.2;omega) HBT.out.size)).mono ?_
   rintro e w3 ⟨v3,rfl,hm3,hb3⟩
   have HM3:=aq hm3
   have HB3:=aq (HBT.out.trans hb3)
   clear hm3 hb3 h0 h1 h2 h3 h4 h5 h6 h7 h8 s8 s9 s10 s11 s12 s13 s14 s15 s16 s17 hfg
   go_wp2_with fail
   go_roundg (gk - 1)
   case measure => omega
   case rel => exact ⟨i + 1,(i : Int),.int .i64 y.f0,.int .i64 y.f1,.int .i64 y.f2,.int .i64 y.f3,.int .i64 y.f4,.string y.f5,.string y.f6,.string y.f7,.slice A8 y.f8.length c8,v3,by rw [show wrap64 ((i : Int) + 1) = ((i + 1 : Nat) : Int) from by have hm:=HCD.out.2.1;have h1:=HLT.out;have h2:=HNN.out;unfold wrap64;omega],by omega,⟨by rw [allOf_succ];exact HM3.out⟩,HB3⟩
  ·
   have hd : decide ((i : Int) < (n : Int)) = false:=decide_eq_false (by omega)
   obtain rfl : i = n:=by omega
   have s18 : wr.cell? ⟨G,18,none⟩ = some v:=blk_cell HM.out.b 18
   have HFIN:=aq (Kd.R_lower HM.out.r (Nat.le_trans HB1.out.size HG1.out.1))
   have HBF:=aq (below_step HB1.out HBR.out)
   go_wp2_with fail
   exact bodyPost_ret (results_tmp rfl _ _ _) rfl ⟨v,rfl,by rw [← HNN.out];exact HFIN.out,HBF.out⟩
def passL (c : S60) (t : S25) (i : Nat) : S60 := ⟨2, c.f1, (⟨1, t, (i : Int), z44, z46⟩ : S50), (⟨1, c.f4.f0, (c.f8.getD i 0), z44, z46⟩ : S50), ⟨c.f4.f0, 0, ⟨#[]⟩⟩, z44, ⟨#[]⟩, z25, []⟩
def passAll (c : S60) (t : S25) (n : Nat) : List S60 := (List.range n).map (passL c t)
theorem passAll_succ (c : S60) (t : S25) (n : Nat) : passAll c t (n + 1) = passAll c t n ++ [passL c t n] := by
 unfold passAll
 rw [List.range_succ,List.map_append]
 rfl
theorem int_at {w : World} {A : Option Addr} {xs : List Int} (h : Kd.C (Kd.int .i64) w A xs.length xs) (i : Nat) (hi : i < xs.length) : ∃ ad, A = some ad ∧ w.cell? (ad.add i) = some (.int .i64 (xs.getD i 0)) := by
 obtain ⟨ad,c,rfl,hl,hK,hc⟩:=Kd.C_get h 0 (i : Int) (by omega) (Int.ofNat_lt.2 hi)
 refine ⟨ad,rfl,?_⟩
 have h1:=hc 0 (.int .i64 (xs.getD i 0)) (by
  have h2 : c = [.int .i64 (xs.getD (i : Int).toNat 0)]:=hK
  rw [h2];rfl)
 have e : (i : Int).toNat * (Kd.int .i64).sz + 0 = i:=by show i * 1 + 0 = i;omega
 rw [e] at h1
 exact h1
theorem gen_pass (c : S60) (A : Option Addr) (c0 : Nat) (t : S25) (w : World) (hk : c.f0 = 9) (ht : c.f2.f0 = 0) (hC : Kd.C (Kd.int .i64) w A c.f8.length c.f8) (hc : c.f8.length ≤ c0) (hlen : c.f8.length + 2 ≤ 1048576) :
  Calls Try.prog 24 #[.agg (List.toArray ((kK c.f0 c.f1 (qL c.f2 (qL c.f3 (sL c.f4 (fL c.f5 (kS c.f6 (mL c.f7 [.slice A c.f8.length c0]))))))))),.agg #[.string t.f0,.string t.f1,.string t.f2]] w fun e w' => ∃ v',e = .returned v' ∧ Kd.R k60 60 w' w.heap.size (fun _ => True) v' (passAll c t c.f8.length) ∧ Below w.heap.size w w':=by
 have hab:=below_alloc (below_alloc (below_alloc (Below.refl w.heap.size w) (Obj.cells (List.toArray ((kK c.f0 c.f1 (qL c.f2 (qL c.f3 (sL c.f4 (fL c.f5 (kS c.f6 (mL c.f7 [.slice A c.f8.length c0]))))))))) 60)) (Obj.cells #[.string t.f0,.string t.f1,.string t.f2] 25)) (Obj.cells #[.slice none 0 0,.slice none 0 0,.string ⟨#[]⟩,.string ⟨#[]⟩,.string ⟨#[]⟩,.string c.f4.f0.f0,.string c.f4.f0.f1,.string c.f4.f0.f2,.int .i64 c.f1,.int .i64 0,.int .i64 0,.int .i64 0,.int .i64 0,.int .i64 0,.string ⟨#[]⟩,.string ⟨#[]⟩,.string ⟨#[]⟩,.slice none 0 0,.slice none 0 0] 85)
 have h0:=blk_alloc (blk_alloc (World.alloc_heap_new w (Obj.cells (List.toArray ((kK c.f0 c.f1 (qL c.f2 (qL c.f3 (sL c.f4 (fL c.f5 (kS c.f6 (mL c.f7 [.slice A c.f8.length c0]))))))))) 60)) (Obj.cells #[.string t.f0,.string t.f1,.string t.f2] 25)) (Obj.cells #[.slice none 0 0,.slice none 0 0,.string ⟨#[]⟩,.string ⟨#[]⟩,.string ⟨#[]⟩,.string c.f4.f0.f0,.string c.f4.f0.f1,.string c.f4.f0.f2,.int .i64 c.f1,.int .i64 0,.int .i64 0,.int .i64 0,.int .i64 0,.int .i64 0,.string ⟨#[]⟩,.string ⟨#[]⟩,.string ⟨#[]⟩,.slice none 0 0,.slice none 0 0] 85)
 have h1:=blk_alloc (World.alloc_heap_new (w.alloc (Obj.cells (List.toArray ((kK c.f0 c.f1 (qL c.f2 (qL c.f3 (sL c.f4 (fL c.f5 (kS c.f6 (mL c.f7 [.slice A c.f8.length c0]))))))))) 60)) (Obj.cells #[.string t.f0,.string t.f1,.string t.f2] 25)) (Obj.cells #[.slice none 0 0,.slice none 0 0,.string ⟨#[]⟩,.string ⟨#[]⟩,.string ⟨#[]⟩,.string c.f4.f0.f0,.string c.f4.f0.f1,.string c.f4.f0.f2,.int .i64 c.f1,.int .i64 0,.int .i64 0,.int .i64 0,.int .i64 0,.int .i64 0,.string ⟨#[]⟩,.string ⟨#[]⟩,.string ⟨#[]⟩,.slice none 0 0,.slice none 0 0] 85)
 have h2:=World.alloc_heap_new ((w.alloc (Obj.cells (List.toArray ((kK c.f0 c.f1 (qL c.f2 (qL c.f3 (sL c.f4 (fL c.f5 (kS c.f6 (mL c.f7 [.slice A c.f8.length c0]))))))))) 60)).alloc (Obj.cells #[.string t.f0,.string t.f1,.string t.f2] 25)) (Obj.cells #[.slice none 0 0,.slice none 0 0,.string ⟨#[]⟩,.string ⟨#[]⟩,.string ⟨#[]⟩,.string c.f4.f0.f0,.string c.f4.f0.f1,.string c.f4.f0.f2,.int .i64 c.f1,.int .i64 0,.int .i64 0,.int .i64 0,.int .i64 0,.int .i64 0,.string ⟨#[]⟩,.string ⟨#[]⟩,.string ⟨#[]⟩,.slice none 0 0,.slice none 0 0] 85)
 rw [World.size_alloc] at h1
 rw [World.size_alloc,World.size_alloc] at h2
 have k10 : (c.f0 == 10) = false:=by rw [hk];rfl
 have k9 : (c.f0 == 9) = true:=by rw [hk];rfl
 have k0 : (c.f2.f0 != 0) = false:=by rw [ht];rfl
 have HCA:=aq hC
 have HLN:=aq hlen
 obtain ⟨n,hn⟩ : ∃ n,n = c.f8.length:=⟨_,rfl⟩
 have HMK : Aside0 (MkOwn ((((w.alloc (Obj.cells (List.toArray ((kK c.f0 c.f1 (qL c.f2 (qL c.f3 (sL c.f4 (fL c.f5 (kS c.f6 (mL c.f7 [.slice A c.f8.length c0]))))))))) 60)).alloc (Obj.cells #[.string t.f0,.string t.f1,.string t.f2] 25))).alloc (Obj.cells #[.slice none 0 0,.slice none 0 0,.string ⟨#[]⟩,.string ⟨#[]⟩,.string ⟨#[]⟩,.string c.f4.f0.f0,.string c.f4.f0.f1,.string c.f4.f0.f2,.int .i64 c.f1,.int .i64 0,.int .i64 0,.int .i64 0,.int .i64 0,.int .i64 0,.string ⟨#[]⟩,.string ⟨#[]⟩,.string ⟨#[]⟩,.slice none 0 0,.slice none 0 0] 85)) (w.heap.size + 2) (w.heap.size + 2) (.slice none 0 0) (.slice none 0 0) (.string ⟨#[]⟩) (.string ⟨#[]⟩) (.string ⟨#[]⟩) c.f4.f0 c.f1 (.int .i64 0) (.int .i64 0) (.int .i64 0) (.int .i64 0) (.int .i64 0) (.string ⟨#[]⟩) (.string ⟨#[]⟩) (.string ⟨#[]⟩) (.slice none 0 0) (.slice none 0 0) (passAll c t 0)):=⟨⟨h2,Nat.le_refl _,Kd.R_nil _ _ _ _ _⟩⟩
 have H0:=aq h0
 have H1:=aq h1
 have HAB:=aq hab
 have HSZ : Aside0 (((((w.alloc (Obj.cells (List.toArray ((kK c.f0 c.f1 (qL c.f2 (qL c.f3 (sL c.f4 (fL c.f5 (kS c.f6 (mL c.f7 [.slice A c.f8.length c0]))))))))) 60)).alloc (Obj.cells #[.string t.f0,.string t.f1,.string t.f2] 25))).alloc (Obj.cells #[.slice none 0 0,.slice none 0 0,.string ⟨#[]⟩,.string ⟨#[]⟩,.string ⟨#[]⟩,.string c.f4.f0.f0,.string c.f4.f0.f1,.string c.f4.f0.f2,.int .i64 c.f1,.int .i64 0,.int .i64 0,.int .i64 0,.int .i64 0,.int .i64 0,.string ⟨#[]⟩,.string ⟨#[]⟩,.string ⟨#[]⟩,.slice none 0 0,.slice none 0 0] 85)).heap.size = w.heap.size + 3):=⟨by rw [World.size_alloc,World.size_alloc,World.size_alloc]⟩
 clear hk ht hC h0 h1 h2 hlen hab
 go_enter Try.func24,Try.ntmps24
 go_wp2_with fail
 generalize ((((w.alloc (Obj.cells (List.toArray ((kK c.f0 c.f1 (qL c.f2 (qL c.f3 (sL c.f4 (fL c.f5 (kS c.f6 (mL c.f7 [.slice A c.f8.length c0]))))))))) 60)).alloc (Obj.cells #[.string t.f0,.string t.f1,.string t.f2] 25))).alloc (Obj.cells #[.slice none 0 0,.slice none 0 0,.string ⟨#[]⟩,.string ⟨#[]⟩,.string ⟨#[]⟩,.string c.f4.f0.f0,.string c.f4.f0.f1,.string c.f4.f0.f2,.int .i64 c.f1,.int .i64 0,.int .i64 0,.int .i64 0,.int .i64 0,.int .i64 0,.string ⟨#[]⟩,.string ⟨#[]⟩,.string ⟨#[]⟩,.slice none 0 0,.slice none 0 0] 85)) = W2 at HMK H0 H1 HAB HSZ ⊢
 generalize Value.agg (List.toArray ((kK c.f0 c.f1 (qL c.f2 (qL c.f3 (sL c.f4 (fL c.f5 (kS c.f6 (mL c.f7 [.slice A c.f8.length c0]))))))))) = cv
 rw [← hn]
 have HNN:=aq hn
 clear hn
 go_loopg [24] n (fun kq v24 wr => ∃ (i : Nat) (v : Value),v24 = .int .i64 (i : Int) ∧ i + kq = n ∧ Aside0 (MkOwn wr (w.heap.size + 2) (w.heap.size + 2) (.slice none 0 0) (.slice none 0 0) (.string ⟨#[]⟩) (.string ⟨#[]⟩) (.string ⟨#[]⟩) c.f4.f0 c.f1 (.int .i64 0) (.int .i64 0) (.int .i64 0) (.int .i64 0) (.int .i64 0) (.string ⟨#[]⟩) (.string ⟨#[]⟩) (.string ⟨#[]⟩) (.slice none 0 0) v (passAll c t i)) ∧ Aside0 (Below (w.heap.size + 2) W2 wr))
 case atStart => exact ⟨0,.slice none 0 0,rfl,by omega,HMK,⟨Below.refl _ _⟩⟩
 case round =>
  obtain ⟨i,v,rfl,hi,HM,HBL⟩:=hrel
  have b0:=(HBL.out.block w.heap.size (by omega)).trans H0.out
  have b1:=(HBL.out.block (w.heap.size + 1) (by omega)).trans H1.out
  by_cases hlt : i < n
  ·
   have hltX : i < c.f8.length:=by rw [← HNN.out];exact hlt
   have HCR:=aq (Kd.C_below HCA.out ((HAB.out).trans (HBL.out.mono (by omega))))
   obtain ⟨ad,hA,hcell⟩:=int_at HCR.out i hltX
   obtain ⟨x,hx⟩ : ∃ x,c.f8.getD i 0 = x:=⟨_,rfl⟩
   rw [hx] at hcell
   subst hA
   have HBX : Aside0 (Below (w.heap.size + 2) W2 wr.drew):=⟨HBL.out.trans (below_drew1 (Below.refl _ _))⟩
   have HMX : Aside0 (MkOwn wr.drew (w.heap.size + 2) (w.heap.size + 2) (.slice none 0 0) (.slice none 0 0) (.string ⟨#[]⟩) (.string ⟨#[]⟩) (.string ⟨#[]⟩) c.f4.f0 c.f1 (.int .i64 0) (.int .i64 0) (.int .i64 0) (.int .i64 0) (.int .i64 0) (.string ⟨#[]⟩) (.string ⟨#[]⟩) (.string ⟨#[]⟩) (.slice none 0 0) v (passAll c t i)):=⟨HM.out.below (below_drew1 (Below.refl _ _)) (Nat.le_trans (by have:=HSZ.out;omega) HBL.out.size)⟩
   have HSX : Aside0 (w.heap.size + 2 ≤ wr.drew.heap.size):=⟨Nat.le_trans (by have:=HSZ.out;omega) HBX.out.size⟩
   have HLI : Aside0 ((passAll c t i).length ≤ 1048576):=⟨by unfold passAll;rw [List.length_map,List.length_range];have:=HLN.out;omega⟩
   have z0 : wr.drew.cell? ⟨w.heap.size,37,none⟩ = some (.slice (some ad) n c0):=by rw [HNN.out];exact blk_cell b0 37
   have z1 : wr.drew.cell? ⟨w.heap.size + 1,0,none⟩ = some (.string t.f0):=blk_cell b1 0
   have z2 : wr.drew.cell? ⟨w.heap.size + 1,1,none⟩ = some (.string t.f1):=blk_cell b1 1
   have z3 : wr.drew.cell? ⟨w.heap.size + 1,2,none⟩ = some (.string t.f2):=blk_cell b1 2
   have z4 : wr.drew.cell? (ad.add i) = some (.int .i64 x):=hcell
   have hd : decide ((i : Int) < (n : Int)) = true:=decide_eq_true (by omega)
   have hi0 : (0 : Int) ≤ (i : Int):=by omega
   have hi1 : (i : Int) < (n : Int):=by omega
   have hg0 : decide ((i : Int) ≥ 0) = true:=decide_eq_true (by omega)
   have HLT:=aq hlt
   have HX:=aq hx
   clear b0 b1 hltX hcell hx
   go_wp2_with fail
   refine start_ (n:=12) (S:=fun w' => w'.cell? ⟨w.heap.size,37,none⟩ = some (.slice (some ad) n c0) ∧ w'.cell? ⟨w.heap.size + 1,0,none⟩ = some (.string t.f0) ∧ w'.cell? ⟨w.heap.size + 1,1,none⟩ = some (.string t.f1) ∧ w'.cell? ⟨w.heap.size + 1,2,none⟩ = some (.string t.f2) ∧ w'.cell? (ad.add i) = some (.int .i64 x)) (ds:=[11]) (Array.replicate 12 false) (by kernel_rfl) rfl rfl ⟨z0,z1,z2,z3,z4⟩ (fun hHeld => ?_)
   generalize wr.drew = X at HMX HSX HBX z0 z1 z2 z3 z4 hHeld ⊢
   refine sP (i:=0) (N:=some 30) ?_
   refine sP (i:=2) (N:=some 32) ?_
   refine sP (i:=4) (N:=some 34) ?_
   refine sP (i:=5) (N:=some 35) ?_
   refine sP (i:=7) (N:=some 37) ?_
   refine sT (i:=1) (N:=some 31) hHeld ?_
   refine sT (i:=6) (N:=some 36) hHeld ?_
   refine sP (i:=8) (N:=some 38) ?_
   refine sT (i:=9) (N:=some 39) hHeld ?_
   refine sO (i:=3) (N:=some 33) fun K hK => ?_
   refine sG Try.func13 #[.agg #[.string t.f0,.string t.f1,.string t.f2],.int .i64 (i : Int)] ?_
   refine (Q43.gen_Reg.calls t.f0 t.f1 t.f2 (i : Int) 1 t.f0 t.f1 t.f2 (i : Int) ⟨#[]⟩ ⟨#[]⟩ ⟨#[]⟩ ⟨#[]⟩ ⟨#[]⟩ 0 ⟨#[]⟩ X rfl).mono ?_
   rintro e w4 ⟨rfl,hb⟩
   refine ⟨_,rfl,?_⟩
   have y0:=sC hb z0
   have y1:=sC hb z1
   have y2:=sC hb z2
   have y3:=sC hb z3
   have y4:=sC hb z4
   have HM4:=aq (HMX.out.below hb HSX.out)
   have HB4:=aq hb
   clear hb
   refine hK.out _ _ ⟨y0,y1,y2,y3,y4⟩ (fun hHeld => ?_)
   clear hK K
   refine sN ?_
   refine sO (i:=10) (N:=some 40) fun K hK => ?_
   refine sG Try.func38 #[.pointer (some ⟨w.heap.size + 2,0,none⟩),.int .i64 x] ?_
   refine (maker_reg (w.heap.size + 2) (.slice none 0 0) (.slice none 0 0) (.string ⟨#[]⟩) (.string ⟨#[]⟩) (.string ⟨#[]⟩) c.f4.f0 c.f1 (.int .i64 0) (.int .i64 0) (.int .i64 0) (.int .i64 0) (.int .i64 0) (.string ⟨#[]⟩) (.string ⟨#[]⟩) (.string ⟨#[]⟩) (.slice none 0 0) v x w4 HM4.out.b).mono ?_
   rintro e w5 ⟨rfl,hb⟩
   refine ⟨_,rfl,?_⟩
   have x0:=sC hb y0
   have x1:=sC hb y1
   have x2:=sC hb y2
   have x3:=sC hb y3
   have x4:=sC hb y4
   have HM5:=aq (HM4.out.below hb (Nat.le_trans HSX.out HB4.out.size))
   have HB5:=aq (below_step HB4.out hb)
   clear hb
   refine hK.out _ _ ⟨x0,x1,x2,x3,x4⟩ (fun hHeld => ?_)
   clear hK K
   refine sN ?_
   refine sX (i:=11) (N:=some 41) fun K hK => ?_
   refine sG Try.func37 #[.pointer (some ⟨w.heap.size + 2,0,none⟩),.agg (List.toArray (qR 1 t (i : Int) [])),.agg (List.toArray (qR 1 c.f4.f0 x [])),.string ⟨#[]⟩] ?_
   refine (maker_flows (w.heap.size + 2) (w.heap.size + 2) (.slice none 0 0) (.slice none 0 0) (.string ⟨#[]⟩) (.string ⟨#[]⟩) (.string ⟨#[]⟩) c.f4.f0 c.f1 (.int .i64 0) (.int .i64 0) (.int .i64 0) (.int .i64 0) (.int .i64 0) (.string ⟨#[]⟩) (.string ⟨#[]⟩) (.string ⟨#[]⟩) (.slice none 0 0) v (passAll c t i) (⟨1,t,(i : Int),z44,z46⟩ : S50) (⟨1,c.f4.f0,x,z44,z46⟩ : S50) ⟨#[]⟩ w5 HM5.out HLI.out (Nat.le_trans HSX.out HB5.out.size)).mono ?_
   rintro e w6 ⟨v6,rfl,hm6,hb6,hk6⟩
   refine ⟨_,rfl,?_⟩
   have HM6:=aq hm6
   have HB6:=aq (HBX.out.trans ((HB5.out.mono HSX.out).trans hb6))
   clear hm6 hb6 hk6
   refine hK.out _ _ ?_
   clear hK K
   refine sN ?_
   refine done_ (by kernel_rfl) ?_
   go_wp2_with fail
   go_roundg (gk - 1)
   case measure => omega
   case rel => exact ⟨i + 1,v6,by rw [show wrap64 ((i : Int) + 1) = ((i + 1 : Nat) : Int) from by have h1:=HLN.out;have h2:=HNN.out;have h3:=HLT.out;unfold wrap64;omega],by omega,⟨by rw [passAll_succ];unfold passL;rw [HX.out];exact HM6.out⟩,HB6⟩
  ·
   have hd : decide ((i : Int) < (n : Int)) = false:=decide_eq_false (by omega)
   obtain rfl : i = n:=by omega
   have e2 : wr.cell? ⟨w.heap.size,2,none⟩ = some (.int .i64 c.f2.f0):=blk_cell b0 2
   have s18 : wr.cell? ⟨w.heap.size + 2,18,none⟩ = some v:=blk_cell HM.out.b 18
   have HFIN:=aq (Kd.R_lower HM.out.r (show w.heap.size ≤ w.heap.size + 2 by omega))
   have HBF:=aq (HAB.out.trans (HBL.out.mono (show w.heap.size ≤ w.heap.size + 2 by omega)))
   clear b0 b1
   go_wp2_with fail
   exact bodyPost_ret (results_tmp rfl _ _ _) rfl ⟨v,rfl,by rw [← HNN.out];exact HFIN.out,HBF.out⟩
theorem row_of {α : Type} {kd : Kd α} {w : World} {g : Nat} {t : TypeId} {xs : List α} {cells : Array Value} (h : w.heap[g]? = some (Obj.cells cells t (0, 0))) (hn : xs.length ≤ 9223372036854775807)
  (hsz : cells.size = xs.length * kd.sz) (hk : ∀ j p,xs[j]? = some p → kd.K w p ((cells.toList.drop (j * kd.sz)).take kd.sz)) : Kd.C kd w (some ⟨g,0,none⟩) xs.length xs:=by
 refine ⟨rfl,hn,fun _ => ⟨⟨g,0,none⟩,rfl,fun j p hj => ?_⟩⟩
 have hjl:=(List.getElem?_eq_some_iff.1 hj).1
 refine ⟨(cells.toList.drop (j * kd.sz)).take kd.sz,?_,hk j p hj,fun i u hu => ?_⟩
 ·
  rw [List.length_take,List.length_drop,Array.length_toList,hsz]
  have h1 : (j + 1) * kd.sz ≤ xs.length * kd.sz:=Nat.mul_le_mul_right _ hjl
  rw [Nat.succ_mul] at h1
  omega
 ·
  rw [List.getElem?_take] at hu
  split at hu
  ·
   rw [List.getElem?_drop,Array.getElem?_toList] at hu
   have hb:=blk_cell h (j * kd.sz + i)
   rw [hu] at hb
   have ha : (⟨g,0,none⟩ : Addr).add (j * kd.sz + i) = ⟨g,j * kd.sz + i,none⟩:=by unfold Addr.add;split <;> simp_all
   exact ha ▸ hb
  ·
   cases hu
def liveI0 : S74 := ⟨9, 0, 0, 0, 0, ⟨#[65]⟩, ⟨#[]⟩, ⟨#[]⟩, []⟩
def liveI1 : S74 := ⟨25, 1, 0, 0, 0, ⟨#[65]⟩, ⟨#[]⟩, ⟨#[]⟩, []⟩
def liveI2 : S74 := ⟨23, 0, 0, 0, 0, ⟨#[]⟩, ⟨#[]⟩, ⟨#[]⟩, []⟩
def liveM : S37 := ⟨⟨#[109]⟩, ⟨#[40, 41, 86]⟩, true, false, 2, [liveI0, liveI1, liveI2]⟩
def liveC : S33 := ⟨⟨#[65]⟩, ⟨#[]⟩, false, false, [], [], [liveM]⟩
theorem live_row {w : World} {gK gM gC : Nat} (hK : w.heap[gK]? = some (Obj.cells #[.int .i64 9, .int .i64 0, .int .i64 0, .int .i64 0, .int .i64 0, .string ⟨#[65]⟩, .string ⟨#[]⟩, .string ⟨#[]⟩, .slice none 0 0, .int .i64 25, .int .i64 1, .int .i64 0, .int .i64 0, .int .i64 0, .string ⟨#[65]⟩, .string ⟨#[]⟩, .string ⟨#[]⟩, .slice none 0 0, .int .i64 23, .int .i64 0, .int .i64 0, .int .i64 0, .int .i64 0, .string ⟨#[]⟩, .string ⟨#[]⟩, .string ⟨#[]⟩, .slice none 0 0] 74)) (hM : w.heap[gM]? = some (Obj.cells #[.string ⟨#[109]⟩, .string ⟨#[40, 41, 86]⟩, .bool true, .bool false, .int .i64 2, .slice (some ⟨gK, 0, none⟩) 3 3] 37)) (hC : w.heap[gC]? = some (Obj.cells #[.string ⟨#[65]⟩, .string ⟨#[]⟩, .bool false, .bool false, .slice none 0 0, .slice none 0 0, .slice (some ⟨gM, 0, none⟩) 1 1] 33)) : Kd.C k33 w (some ⟨gC, 0, none⟩) [liveC].length [liveC] := by
 have h1 : Kd.C k74 w (some ⟨gK,0,none⟩) [liveI0,liveI1,liveI2].length [liveI0,liveI1,liveI2]:=row_of hK (by decide) rfl (fun j p hj => by
  match j,hj with
  | 0,hj =>
   obtain rfl : liveI0 = p:=by simpa using hj
   exact k74_mk w liveI0 (A8:=none) (c8:=0) (Nat.le_refl _) (Kd.C_nil _ _)
  | 1,hj =>
   obtain rfl : liveI1 = p:=by simpa using hj
   exact k74_mk w liveI1 (A8:=none) (c8:=0) (Nat.le_refl _) (Kd.C_nil _ _)
  | 2,hj =>
   obtain rfl : liveI2 = p:=by simpa using hj
   exact k74_mk w liveI2 (A8:=none) (c8:=0) (Nat.le_refl _) (Kd.C_nil _ _)
  | j + 3,hj => simp at hj)
 have h2 : Kd.C k37 w (some ⟨gM,0,none⟩) [liveM].length [liveM]:=row_of hM (by decide) rfl (fun j p hj => by
  match j,hj with
  | 0,hj =>
   obtain rfl : liveM = p:=by simpa using hj
   exact k37_mk w liveM (A5:=some ⟨gK,0,none⟩) (c5:=3) (Nat.le_refl _) h1
  | j + 1,hj => simp at hj)
 exact row_of hC (by decide) rfl (fun j p hj => by
  match j,hj with
  | 0,hj =>
   obtain rfl : liveC = p:=by simpa using hj
   exact k33_mk w liveC (A4:=none) (c4:=0) (Nat.le_refl _) (Kd.C_nil _ _) (A5:=none) (c5:=0) (Nat.le_refl _) (Kd.C_nil _ _) (A6:=some ⟨gM,0,none⟩) (c6:=1) (Nat.le_refl _) h2
  | j + 1,hj => simp at hj)
theorem live_rowF {w : World} {gK gM gC : Nat} (hK : w.heap[gK]? = some (Obj.cells #[.int .i64 9, .int .i64 0, .int .i64 0, .int .i64 0, .int .i64 0, .string ⟨#[65]⟩, .string ⟨#[]⟩, .string ⟨#[]⟩, .slice none 0 0, .int .i64 25, .int .i64 1, .int .i64 0, .int .i64 0, .int .i64 0, .string ⟨#[65]⟩, .string ⟨#[]⟩, .string ⟨#[]⟩, .slice none 0 0, .int .i64 23, .int .i64 0, .int .i64 0, .int .i64 0, .int .i64 0, .string ⟨#[]⟩, .string ⟨#[]⟩, .string ⟨#[]⟩, .slice none 0 0] 74)) (hM : w.heap[gM]? = some (Obj.cells #[.string ⟨#[109]⟩, .string ⟨#[40, 41, 86]⟩, .bool true, .bool false, .int .i64 2, .slice (some ⟨gK, 0, none⟩) 3 3] 37)) (hC : w.heap[gC]? = some (Obj.cells #[.string ⟨#[65]⟩, .string ⟨#[]⟩, .bool false, .bool false, .slice none 0 0, .slice none 0 0, .slice (some ⟨gM, 0, none⟩) 1 1] 33)) : Kd.F k33 w (fun _ => True) (some ⟨gC, 0, none⟩) [liveC].length [liveC] := fun W' hW =>
 live_row ((hW gK trivial (blk_lt hK)).trans hK) ((hW gM trivial (blk_lt hM)).trans hM) ((hW gC trivial (blk_lt hC)).trans hC)
def lm : S25 := ⟨⟨#[65]⟩, ⟨#[109]⟩, ⟨#[40, 41, 86]⟩⟩
def liveL (i : Nat) : List S60 := match i with
 | 0 => [⟨7,0,z50,z50,⟨lm,0,⟨#[]⟩⟩,z44,⟨#[65]⟩,z25,[]⟩,⟨1,0,⟨1,lm,0,z44,z46⟩,z50,⟨lm,0,⟨#[65]⟩⟩,z44,⟨#[]⟩,z25,[]⟩]
 | 1 => [⟨2,1,⟨1,lm,1,z44,z46⟩,⟨1,lm,0,z44,z46⟩,⟨lm,0,⟨#[]⟩⟩,z44,⟨#[65]⟩,z25,[]⟩]
 | _ => []
theorem live_get : getM [liveC] ⟨#[65]⟩ ⟨#[109]⟩ ⟨#[40, 41, 86]⟩ = liveM := by kernel_rfl
theorem live_puts (a0 a1 a2 a3 a4 : Value) : ∀ i (h : i < liveM.f5.length), Puts a0 a1 a2 a3 a4 lm (i : Int) (liveM.f5[i]) (liveL i) := fun i h => by
 match i,h with
 | 0,h => exact fun g A8 c8 v l W hm _ _ hl hg => (instr_new g g a0 a1 a2 a3 a4 lm 0 0 0 0 0 ⟨#[65]⟩ ⟨#[]⟩ ⟨#[]⟩ A8 0 c8 v l W hm hl hg).mono (fun e w' ⟨v',he,h1,h2,_⟩ => ⟨v',he,by rw [List.append_assoc] at h1;exact h1,h2⟩)
 | 1,h => exact fun g A8 c8 v l W hm _ _ hl hg => (instr_cast g g a0 a1 a2 a3 a4 lm 1 1 0 0 0 ⟨#[65]⟩ ⟨#[]⟩ ⟨#[]⟩ A8 0 c8 v l W hm hl hg).mono (fun e w' ⟨v',he,h1,h2,_⟩ => ⟨v',he,h1,h2⟩)
 | 2,h => exact fun g A8 c8 v l W hm _ _ hl hg => (instr_end g g a0 a1 a2 a3 a4 lm 2 0 0 0 0 ⟨#[]⟩ ⟨#[]⟩ ⟨#[]⟩ A8 0 c8 v l W hm hl hg).mono (fun e w' ⟨v',he,h1,h2,_⟩ => ⟨v',he,by show MkOwn _ _ _ _ _ _ _ _ _ _ _ _ _ _ _ _ _ _ _ _ (l ++ []);rw [List.append_nil];exact h1,h2⟩)
 | i + 3,h => exact absurd h (by show ¬ (i + 3 < 3);omega)
theorem live_len : ∀ i, i ≤ liveM.f5.length → (allOf liveL i).length + 2 ≤ 1048576 := fun i h => by
 match i,h with
 | 0,_ => decide
 | 1,_ => decide
 | 2,_ => decide
 | 3,_ => decide
 | i + 4,h => exact absurd h (by show ¬ (i + 4 ≤ 3);omega)
theorem live_of {W : World} {gK gM gC : Nat} (hK : W.heap[gK]? = some (Obj.cells #[.int .i64 9, .int .i64 0, .int .i64 0, .int .i64 0, .int .i64 0, .string ⟨#[65]⟩, .string ⟨#[]⟩, .string ⟨#[]⟩, .slice none 0 0, .int .i64 25, .int .i64 1, .int .i64 0, .int .i64 0, .int .i64 0, .string ⟨#[65]⟩, .string ⟨#[]⟩, .string ⟨#[]⟩, .slice none 0 0, .int .i64 23, .int .i64 0, .int .i64 0, .int .i64 0, .int .i64 0, .string ⟨#[]⟩, .string ⟨#[]⟩, .string ⟨#[]⟩, .slice none 0 0] 74)) (hM : W.heap[gM]? = some (Obj.cells #[.string ⟨#[109]⟩, .string ⟨#[40, 41, 86]⟩, .bool true, .bool false, .int .i64 2, .slice (some ⟨gK, 0, none⟩) 3 3] 37)) (hC : W.heap[gC]? = some (Obj.cells #[.string ⟨#[65]⟩, .string ⟨#[]⟩, .bool false, .bool false, .slice none 0 0, .slice none 0 0, .slice (some ⟨gM, 0, none⟩) 1 1] 33)) :
  Calls Try.prog 29 #[.agg #[.slice (some ⟨gC,0,none⟩) 1 1,.slice none 0 0,.string ⟨#[]⟩,.string ⟨#[]⟩,.string ⟨#[]⟩],.agg #[.string ⟨#[65]⟩,.string ⟨#[109]⟩,.string ⟨#[40,41,86]⟩]] W fun e w' => ∃ v',e = .returned v' ∧ Kd.R k60 60 w' W.heap.size (fun _ => True) v' (allOf liveL 3) ∧ Below W.heap.size W w':=by
 have h:=gen_of (fun _ => True) (some ⟨gC,0,none⟩) 1 [liveC] none 0 [] ⟨#[]⟩ ⟨#[]⟩ ⟨#[]⟩ ⟨#[65]⟩ ⟨#[109]⟩ ⟨#[40,41,86]⟩ W (live_rowF hK hM hC) (Nat.le_refl _) (Kd.C_nil _ _) (Nat.le_refl _) liveL (by rw [live_get];exact live_puts _ _ _ _ _) (by rw [live_get];exact live_len)
 rw [live_get] at h
 exact h
def liveP : S60 := ⟨9, 0, z50, z50, z46, z44, ⟨#[]⟩, z25, [0, 1]⟩
theorem live_pass (W : World) : Calls Try.prog 24 #[.agg (List.toArray ((kK 9 0 (qZ (qZ (sZ (fZ (kS ⟨#[]⟩ (mZ [.slice (some ⟨W.heap.size, 0, none⟩) 2 2]))))))))), .agg #[.string ⟨#[65]⟩, .string ⟨#[109]⟩, .string ⟨#[40, 41, 86]⟩]] (W.alloc (Obj.cells #[.int .i64 0, .int .i64 1] 3)) fun e w' => ∃ v', e = .returned v' ∧ Kd.R k60 60 w' (W.alloc (Obj.cells #[.int .i64 0, .int .i64 1] 3)).heap.size (fun _ => True) v' (passAll liveP lm 2) ∧ Below (W.alloc (Obj.cells #[.int .i64 0, .int .i64 1] 3)).heap.size (W.alloc (Obj.cells #[.int .i64 0, .int .i64 1] 3)) w' :=
 gen_pass liveP (some ⟨W.heap.size,0,none⟩) 2 lm (W.alloc (Obj.cells #[.int .i64 0,.int .i64 1] 3)) rfl rfl
  (row_of (xs:=[0,1]) (World.alloc_heap_new W _) (by decide) rfl (fun j p hj => by
   match j,hj with
   | 0,hj =>
    obtain rfl : (0 : Int) = p:=by simpa using hj
    rfl
   | 1,hj =>
    obtain rfl : (1 : Int) = p:=by simpa using hj
    rfl
   | j + 2,hj => simp at hj)) (Nat.le_refl _) (by decide)
structure L7 (W : World) (n0 n1 n2 : Nat) (ad : Addr) : Prop where
 m : W.heap[n0]? = some (Obj.cells #[.string ⟨#[65]⟩,.string ⟨#[109]⟩,.string ⟨#[40,41,86]⟩] 25)
 s : W.heap[n1]? = some (Obj.cells #[.string ⟨#[65]⟩,.string ⟨#[109]⟩,.string ⟨#[40,41,86]⟩,.int .i64 0,.string ⟨#[65]⟩] 46)
 f : W.heap[n2]? = some (Obj.cells #[.string ⟨#[65]⟩,.string ⟨#[102]⟩] 44)
 r : Kd.C k60 W (some ad) 3 (allOf liveL 3)
theorem L7.below {W W' : World} {n0 n1 n2 : Nat} {ad : Addr} (h : L7 W n0 n1 n2 ad) (hb : Below W.heap.size W W') : L7 W' n0 n1 n2 ad := ⟨blk_below h.m hb, blk_below h.s hb, blk_below h.f hb, Kd.C_below h.r hb⟩
theorem L7.S {W : World} {n0 n1 n2 : Nat} {ad : Addr} (h : L7 W n0 n1 n2 ad) : W.cell? ⟨n0, 0, none⟩ = some (.string ⟨#[65]⟩) ∧ W.cell? ⟨n0, 1, none⟩ = some (.string ⟨#[109]⟩) ∧ W.cell? ⟨n0, 2, none⟩ = some (.string ⟨#[40, 41, 86]⟩) ∧ W.cell? ⟨n1, 0, none⟩ = some (.string ⟨#[65]⟩) ∧ W.cell? ⟨n1, 1, none⟩ = some (.string ⟨#[109]⟩) ∧ W.cell? ⟨n1, 2, none⟩ = some (.string ⟨#[40, 41, 86]⟩) ∧ W.cell? ⟨n1, 3, none⟩ = some (.int .i64 0) ∧ W.cell? ⟨n1, 4, none⟩ = some (.string ⟨#[65]⟩) ∧ W.cell? ⟨n2, 0, none⟩ = some (.string ⟨#[65]⟩) ∧ W.cell? ⟨n2, 1, none⟩ = some (.string ⟨#[102]⟩) ∧ W.cell? ad = some (.int .i64 7) ∧ W.cell? ⟨ad.block, ad.off + 38, none⟩ = some (.int .i64 1) ∧ W.cell? ⟨ad.block, ad.off + 38 + 26, none⟩ = some (.string ⟨#[65]⟩) ∧ W.cell? ⟨ad.block, ad.off + 38 + 27, none⟩ = some (.string ⟨#[109]⟩) ∧ W.cell? ⟨ad.block, ad.off + 38 + 28, none⟩ = some (.string ⟨#[40, 41, 86]⟩) ∧ W.cell? ⟨ad.block, ad.off + 38 + 29, none⟩ = some (.int .i64 0) ∧ W.cell? ⟨ad.block, ad.off + 38 + 30, none⟩ = some (.string ⟨#[65]⟩) ∧ W.cell? ⟨ad.block, ad.off + 76 + 33, none⟩ = some (.string ⟨#[65]⟩) ∧ W.cell? ⟨ad.block, ad.off + 76 + 2, none⟩ = some (.int .i64 1) ∧ W.cell? ⟨ad.block, ad.off + 76 + 3, none⟩ = some (.string ⟨#[65]⟩) ∧ W.cell? ⟨ad.block, ad.off + 76 + 4, none⟩ = some (.string ⟨#[109]⟩) ∧ W.cell? ⟨ad.block, ad.off + 76 + 5, none⟩ = some (.string ⟨#[40, 41, 86]⟩) ∧ W.cell? ⟨ad.block, ad.off + 76 + 6, none⟩ = some (.int .i64 1) ∧ W.cell? ⟨ad.block, ad.off + 76 + 7, none⟩ = some (.string ⟨#[]⟩) ∧ W.cell? ⟨ad.block, ad.off + 76 + 8, none⟩ = some (.string ⟨#[]⟩) ∧ W.cell? ⟨ad.block, ad.off + 76 + 9, none⟩ = some (.string ⟨#[]⟩) ∧ W.cell? ⟨ad.block, ad.off + 76 + 10, none⟩ = some (.string ⟨#[]⟩) ∧ W.cell? ⟨ad.block, ad.off + 76 + 11, none⟩ = some (.string ⟨#[]⟩) ∧ W.cell? ⟨ad.block, ad.off + 76 + 12, none⟩ = some (.int .i64 0) ∧ W.cell? ⟨ad.block, ad.off + 76 + 13, none⟩ = some (.string ⟨#[]⟩) := by
 obtain ⟨a0,_,_,h0,x0,x1,x2,x3,x4,x5,x6,x7,x8,x9,x10,x11,x12,x13,x14,x15,x16,x17,x18,x19,x20,x21,x22,x23,x24,x25,x26,x27,x28,x29,x30,x31,x32,x33,x34,x35,x36,x37,_⟩:=at_T60 h.r 0 (by decide) (by decide)
 obtain ⟨a1,_,_,h1,y0,y1,y2,y3,y4,y5,y6,y7,y8,y9,y10,y11,y12,y13,y14,y15,y16,y17,y18,y19,y20,y21,y22,y23,y24,y25,y26,y27,y28,y29,y30,y31,y32,y33,y34,y35,y36,y37,_⟩:=at_T60 h.r 1 (by decide) (by decide)
 obtain ⟨a2,_,_,h2,z0,z1,z2,z3,z4,z5,z6,z7,z8,z9,z10,z11,z12,z13,z14,z15,z16,z17,z18,z19,z20,z21,z22,z23,z24,z25,z26,z27,z28,z29,z30,z31,z32,z33,z34,z35,z36,z37,_⟩:=at_T60 h.r 2 (by decide) (by decide)
 obtain rfl:=Option.some.inj h0
 obtain rfl:=Option.some.inj h1
 obtain rfl:=Option.some.inj h2
 exact ⟨blk_cell h.m 0,blk_cell h.m 1,blk_cell h.m 2,blk_cell h.s 0,blk_cell h.s 1,blk_cell h.s 2,blk_cell h.s 3,blk_cell h.s 4,blk_cell h.f 0,blk_cell h.f 1,x0,y0,y26,y27,y28,y29,y30,z33,z2,z3,z4,z5,z6,z7,z8,z9,z10,z11,z12,z13⟩
theorem fld_0 (W : World) (a b c d e f g h i j k l : Value) : Sem.run Try.prog (Instr.field 50 (.agg #[a,b,c,d,e,f,g,h,i,j,k,l]) 0) W = .ok a W := by kernel_rfl
theorem fld_3 (W : World) (a b c d e f g h i j k l : Value) : Sem.run Try.prog (Instr.field 50 (.agg #[a,b,c,d,e,f,g,h,i,j,k,l]) 3) W = .ok (.agg #[f,g]) W := by kernel_rfl
theorem fld_4 (W : World) (a b c d e f g h i j k l : Value) : Sem.run Try.prog (Instr.field 50 (.agg #[a,b,c,d,e,f,g,h,i,j,k,l]) 4) W = .ok (.agg #[h,i,j,k,l]) W := by kernel_rfl
theorem gen_live (w : World) : Calls Try.prog 12 #[] w fun e w' => e = .returned (.bool true) ∧ Below w.heap.size w w' := by
 have hb0:=below_alloc (below_alloc (below_alloc (below_alloc (below_alloc (Below.refl w.heap.size w) (Obj.cells #[.string ⟨#[65]⟩,.string ⟨#[109]⟩,.string ⟨#[40,41,86]⟩] 25)) (Obj.cells #[.int .i64 9,.int .i64 0,.int .i64 0,.int .i64 0,.int .i64 0,.string ⟨#[65]⟩,.string ⟨#[]⟩,.string ⟨#[]⟩,.slice none 0 0,.int .i64 25,.int .i64 1,.int .i64 0,.int .i64 0,.int .i64 0,.string ⟨#[65]⟩,.string ⟨#[]⟩,.string ⟨#[]⟩,.slice none 0 0,.int .i64 23,.int .i64 0,.int .i64 0,.int .i64 0,.int .i64 0,.string ⟨#[]⟩,.string ⟨#[]⟩,.string ⟨#[]⟩,.slice none 0 0] 74)) (Obj.cells #[.string ⟨#[109]⟩,.string ⟨#[40,41,86]⟩,.bool true,.bool false,.int .i64 2,.slice (some ⟨w.heap.size + 1,0,none⟩) 3 3] 37)) (Obj.cells #[.string ⟨#[65]⟩,.string ⟨#[]⟩,.bool false,.bool false,.slice none 0 0,.slice none 0 0,.slice (some ⟨w.heap.size + 1 + 1,0,none⟩) 1 1] 33)) (Obj.cells #[.slice (some ⟨w.heap.size + 1 + 1 + 1,0,none⟩) 1 1,.slice none 0 0,.string ⟨#[]⟩,.string ⟨#[]⟩,.string ⟨#[]⟩] 27)
 have hm:=blk_alloc (blk_alloc (blk_alloc (blk_alloc (World.alloc_heap_new w (Obj.cells #[.string ⟨#[65]⟩,.string ⟨#[109]⟩,.string ⟨#[40,41,86]⟩] 25)) (Obj.cells #[.int .i64 9,.int .i64 0,.int .i64 0,.int .i64 0,.int .i64 0,.string ⟨#[65]⟩,.string ⟨#[]⟩,.string ⟨#[]⟩,.slice none 0 0,.int .i64 25,.int .i64 1,.int .i64 0,.int .i64 0,.int .i64 0,.string ⟨#[65]⟩,.string ⟨#[]⟩,.string ⟨#[]⟩,.slice none 0 0,.int .i64 23,.int .i64 0,.int .i64 0,.int .i64 0,.int .i64 0,.string ⟨#[]⟩,.string ⟨#[]⟩,.string ⟨#[]⟩,.slice none 0 0] 74)) (Obj.cells #[.string ⟨#[109]⟩,.string ⟨#[40,41,86]⟩,.bool true,.bool false,.int .i64 2,.slice (some ⟨w.heap.size + 1,0,none⟩) 3 3] 37)) (Obj.cells #[.string ⟨#[65]⟩,.string ⟨#[]⟩,.bool false,.bool false,.slice none 0 0,.slice none 0 0,.slice (some ⟨w.heap.size + 1 + 1,0,none⟩) 1 1] 33)) (Obj.cells #[.slice (some ⟨w.heap.size + 1 + 1 + 1,0,none⟩) 1 1,.slice none 0 0,.string ⟨#[]⟩,.string ⟨#[]⟩,.string ⟨#[]⟩] 27)
 have hk:=blk_alloc (blk_alloc (blk_alloc (World.alloc_heap_new (w.alloc (Obj.cells #[.string ⟨#[65]⟩,.string ⟨#[109]⟩,.string ⟨#[40,41,86]⟩] 25)) (Obj.cells #[.int .i64 9,.int .i64 0,.int .i64 0,.int .i64 0,.int .i64 0,.string ⟨#[65]⟩,.string ⟨#[]⟩,.string ⟨#[]⟩,.slice none 0 0,.int .i64 25,.int .i64 1,.int .i64 0,.int .i64 0,.int .i64 0,.string ⟨#[65]⟩,.string ⟨#[]⟩,.string ⟨#[]⟩,.slice none 0 0,.int .i64 23,.int .i64 0,.int .i64 0,.int .i64 0,.int .i64 0,.string ⟨#[]⟩,.string ⟨#[]⟩,.string ⟨#[]⟩,.slice none 0 0] 74)) (Obj.cells #[.string ⟨#[109]⟩,.string ⟨#[40,41,86]⟩,.bool true,.bool false,.int .i64 2,.slice (some ⟨w.heap.size + 1,0,none⟩) 3 3] 37)) (Obj.cells #[.string ⟨#[65]⟩,.string ⟨#[]⟩,.bool false,.bool false,.slice none 0 0,.slice none 0 0,.slice (some ⟨w.heap.size + 1 + 1,0,none⟩) 1 1] 33)) (Obj.cells #[.slice (some ⟨w.heap.size + 1 + 1 + 1,0,none⟩) 1 1,.slice none 0 0,.string ⟨#[]⟩,.string ⟨#[]⟩,.string ⟨#[]⟩] 27)
 have hmm:=blk_alloc (blk_alloc (World.alloc_heap_new ((w.alloc (Obj.cells #[.string ⟨#[65]⟩,.string ⟨#[109]⟩,.string ⟨#[40,41,86]⟩] 25)).alloc (Obj.cells #[.int .i64 9,.int .i64 0,.int .i64 0,.int .i64 0,.int .i64 0,.string ⟨#[65]⟩,.string ⟨#[]⟩,.string ⟨#[]⟩,.slice none 0 0,.int .i64 25,.int .i64 1,.int .i64 0,.int .i64 0,.int .i64 0,.string ⟨#[65]⟩,.string ⟨#[]⟩,.string ⟨#[]⟩,.slice none 0 0,.int .i64 23,.int .i64 0,.int .i64 0,.int .i64 0,.int .i64 0,.string ⟨#[]⟩,.string ⟨#[]⟩,.string ⟨#[]⟩,.slice none 0 0] 74)) (Obj.cells #[.string ⟨#[109]⟩,.string ⟨#[40,41,86]⟩,.bool true,.bool false,.int .i64 2,.slice (some ⟨w.heap.size + 1,0,none⟩) 3 3] 37)) (Obj.cells #[.string ⟨#[65]⟩,.string ⟨#[]⟩,.bool false,.bool false,.slice none 0 0,.slice none 0 0,.slice (some ⟨w.heap.size + 1 + 1,0,none⟩) 1 1] 33)) (Obj.cells #[.slice (some ⟨w.heap.size + 1 + 1 + 1,0,none⟩) 1 1,.slice none 0 0,.string ⟨#[]⟩,.string ⟨#[]⟩,.string ⟨#[]⟩] 27)
 have hcc:=blk_alloc (World.alloc_heap_new (((w.alloc (Obj.cells #[.string ⟨#[65]⟩,.string ⟨#[109]⟩,.string ⟨#[40,41,86]⟩] 25)).alloc (Obj.cells #[.int .i64 9,.int .i64 0,.int .i64 0,.int .i64 0,.int .i64 0,.string ⟨#[65]⟩,.string ⟨#[]⟩,.string ⟨#[]⟩,.slice none 0 0,.int .i64 25,.int .i64 1,.int .i64 0,.int .i64 0,.int .i64 0,.string ⟨#[65]⟩,.string ⟨#[]⟩,.string ⟨#[]⟩,.slice none 0 0,.int .i64 23,.int .i64 0,.int .i64 0,.int .i64 0,.int .i64 0,.string ⟨#[]⟩,.string ⟨#[]⟩,.string ⟨#[]⟩,.slice none 0 0] 74)).alloc (Obj.cells #[.string ⟨#[109]⟩,.string ⟨#[40,41,86]⟩,.bool true,.bool false,.int .i64 2,.slice (some ⟨w.heap.size + 1,0,none⟩) 3 3] 37)) (Obj.cells #[.string ⟨#[65]⟩,.string ⟨#[]⟩,.bool false,.bool false,.slice none 0 0,.slice none 0 0,.slice (some ⟨w.heap.size + 1 + 1,0,none⟩) 1 1] 33)) (Obj.cells #[.slice (some ⟨w.heap.size + 1 + 1 + 1,0,none⟩) 1 1,.slice none 0 0,.string ⟨#[]⟩,.string ⟨#[]⟩,.string ⟨#[]⟩] 27)
 simp only [World.size_alloc] at hk hmm hcc
 have HOF:=aq (live_of hk hmm hcc)
 have HB0:=aq hb0
 have HM0:=aq hm
 clear hb0 hm hk hmm hcc
 go_enter Try.func12,Try.ntmps12
 go_wp2_with fail
 refine HOF.out.mono ?_
 rintro e w1 ⟨v1,rfl,hR,hb⟩
 obtain ⟨A1,c1,hv,hc1,hC1⟩:=Kd.R_reads hR
 obtain rfl : v1 = .slice A1 3 c1:=hv
 have HB1:=aq (below_step HB0.out hb)
 have HM1:=aq (blk_below HM0.out hb)
 obtain ⟨q0,q1,q2⟩:=cells3 HM1.out
 have HC1:=aq hC1
 have HCC:=aq hc1
 clear hR hb hC1 hc1
 go_wp2_with fail
 have HMa:=aq (blk_alloc (blk_alloc HM1.out (Obj.cells #[.string ⟨#[65]⟩,.string ⟨#[109]⟩,.string ⟨#[40,41,86]⟩,.int .i64 0,.string ⟨#[65]⟩] 46)) (Obj.cells #[.string ⟨#[65]⟩,.string ⟨#[102]⟩] 44))
 have HSa:=aq (blk_alloc (World.alloc_heap_new w1 (Obj.cells #[.string ⟨#[65]⟩,.string ⟨#[109]⟩,.string ⟨#[40,41,86]⟩,.int .i64 0,.string ⟨#[65]⟩] 46)) (Obj.cells #[.string ⟨#[65]⟩,.string ⟨#[102]⟩] 44))
 have hfa:=World.alloc_heap_new (w1.alloc (Obj.cells #[.string ⟨#[65]⟩,.string ⟨#[109]⟩,.string ⟨#[40,41,86]⟩,.int .i64 0,.string ⟨#[65]⟩] 46)) (Obj.cells #[.string ⟨#[65]⟩,.string ⟨#[102]⟩] 44)
 rw [World.size_alloc] at hfa
 have HFa:=aq hfa
 have HBa:=aq (below_alloc (below_alloc (Below.refl w1.heap.size w1) (Obj.cells #[.string ⟨#[65]⟩,.string ⟨#[109]⟩,.string ⟨#[40,41,86]⟩,.int .i64 0,.string ⟨#[65]⟩] 46)) (Obj.cells #[.string ⟨#[65]⟩,.string ⟨#[102]⟩] 44))
 clear hfa q0 q1 q2
 generalize (w1.alloc (Obj.cells #[.string ⟨#[65]⟩,.string ⟨#[109]⟩,.string ⟨#[40,41,86]⟩,.int .i64 0,.string ⟨#[65]⟩] 46)).alloc (Obj.cells #[.string ⟨#[65]⟩,.string ⟨#[102]⟩] 44) = w5 at HMa HSa HFa HBa ⊢
 have HCa:=aq (Kd.C_below HC1.out HBa.out)
 have hA : A1.isSome:=by
  obtain ⟨ad,_,_,hA,_⟩:=at_T60 HCa.out 0 (by decide) (by decide)
  rw [hA];rfl
 obtain ⟨ad,rfl⟩:=Option.isSome_iff_exists.1 hA
 clear hA
 have HL7 : Aside0 (L7 w5 w.heap.size w1.heap.size (w1.heap.size + 1) ad):=⟨⟨HMa.out,HSa.out,HFa.out,HCa.out⟩⟩
 have HB5:=aq (below_step HB1.out HBa.out)
 clear HMa HSa HFa HCa HBa HC1 HM1 HM0 HOF HCC HB0 HB1
 have hf0:=fld_0
 have hf3:=fld_3
 have hf4:=fld_4
 simp only [List.append]
 go_region_held3? (fun w' => w'.cell? ⟨w.heap.size, 0, none⟩ = some (.string ⟨#[65]⟩) ∧ w'.cell? ⟨w.heap.size, 1, none⟩ = some (.string ⟨#[109]⟩) ∧ w'.cell? ⟨w.heap.size, 2, none⟩ = some (.string ⟨#[40, 41, 86]⟩) ∧ w'.cell? ⟨w1.heap.size, 0, none⟩ = some (.string ⟨#[65]⟩) ∧ w'.cell? ⟨w1.heap.size, 1, none⟩ = some (.string ⟨#[109]⟩) ∧ w'.cell? ⟨w1.heap.size, 2, none⟩ = some (.string ⟨#[40, 41, 86]⟩) ∧ w'.cell? ⟨w1.heap.size, 3, none⟩ = some (.int .i64 0) ∧ w'.cell? ⟨w1.heap.size, 4, none⟩ = some (.string ⟨#[65]⟩) ∧ w'.cell? ⟨(w1.heap.size + 1), 0, none⟩ = some (.string ⟨#[65]⟩) ∧ w'.cell? ⟨(w1.heap.size + 1), 1, none⟩ = some (.string ⟨#[102]⟩) ∧ w'.cell? ad = some (.int .i64 7) ∧ w'.cell? ⟨ad.block, ad.off + 38, none⟩ = some (.int .i64 1) ∧ w'.cell? ⟨ad.block, ad.off + 38 + 26, none⟩ = some (.string ⟨#[65]⟩) ∧ w'.cell? ⟨ad.block, ad.off + 38 + 27, none⟩ = some (.string ⟨#[109]⟩) ∧ w'.cell? ⟨ad.block, ad.off + 38 + 28, none⟩ = some (.string ⟨#[40, 41, 86]⟩) ∧ w'.cell? ⟨ad.block, ad.off + 38 + 29, none⟩ = some (.int .i64 0) ∧ w'.cell? ⟨ad.block, ad.off + 38 + 30, none⟩ = some (.string ⟨#[65]⟩) ∧ w'.cell? ⟨ad.block, ad.off + 76 + 33, none⟩ = some (.string ⟨#[65]⟩) ∧ w'.cell? ⟨ad.block, ad.off + 76 + 2, none⟩ = some (.int .i64 1) ∧ w'.cell? ⟨ad.block, ad.off + 76 + 3, none⟩ = some (.string ⟨#[65]⟩) ∧ w'.cell? ⟨ad.block, ad.off + 76 + 4, none⟩ = some (.string ⟨#[109]⟩) ∧ w'.cell? ⟨ad.block, ad.off + 76 + 5, none⟩ = some (.string ⟨#[40, 41, 86]⟩) ∧ w'.cell? ⟨ad.block, ad.off + 76 + 6, none⟩ = some (.int .i64 1) ∧ w'.cell? ⟨ad.block, ad.off + 76 + 7, none⟩ = some (.string ⟨#[]⟩) ∧ w'.cell? ⟨ad.block, ad.off + 76 + 8, none⟩ = some (.string ⟨#[]⟩) ∧ w'.cell? ⟨ad.block, ad.off + 76 + 9, none⟩ = some (.string ⟨#[]⟩) ∧ w'.cell? ⟨ad.block, ad.off + 76 + 10, none⟩ = some (.string ⟨#[]⟩) ∧ w'.cell? ⟨ad.block, ad.off + 76 + 11, none⟩ = some (.string ⟨#[]⟩) ∧ w'.cell? ⟨ad.block, ad.off + 76 + 12, none⟩ = some (.int .i64 0) ∧ w'.cell? ⟨ad.block, ad.off + 76 + 13, none⟩ = some (.string ⟨#[]⟩)) (first | with_reducible exact (HL7.out.below (below_drew1 (Below.refl _ _))).S | with_reducible exact HL6.out.S | with_reducible exact HL8.out.S | with_reducible exact HL9.out.S | with_reducible exact HL10.out.S | with_reducible exact HL11.out.S | with_reducible exact (HL11.out.below (below_alloc (Below.refl _ _) _)).S | with_reducible exact HL12.out.S | fail "keep") ((first
  | (go_at_call 13;(with_reducible refine (Q43.gen_Reg.calls ⟨#[65]⟩ ⟨#[109]⟩ ⟨#[40,41,86]⟩ 1 1 ⟨#[65]⟩ ⟨#[109]⟩ ⟨#[40,41,86]⟩ 1 ⟨#[]⟩ ⟨#[]⟩ ⟨#[]⟩ ⟨#[]⟩ ⟨#[]⟩ 0 ⟨#[]⟩ _ rfl).mono ?_);rintro e w6 ⟨rfl,hb⟩;have hb_:=below_step (below_drew1 (Below.refl w5.heap.size w5)) hb;have HL6:=aq (HL7.out.below hb_);have HB6:=aq (below_step HB5.out hb_);clear hb hb_)
  | (go_at_call 15;(with_reducible refine (Q43.gen_Ret.calls ⟨#[65]⟩ ⟨#[109]⟩ ⟨#[40,41,86]⟩ 2 ⟨#[65]⟩ ⟨#[109]⟩ ⟨#[40,41,86]⟩ 0 ⟨#[]⟩ ⟨#[]⟩ ⟨#[]⟩ ⟨#[]⟩ ⟨#[]⟩ 0 ⟨#[]⟩ _ rfl).mono ?_);rintro e w7 ⟨rfl,hb⟩;have HL8:=aq (HL6.out.below hb);have HB8:=aq (below_step HB6.out hb);clear hb)
  | (go_at_call 17;(with_reducible refine (Q43.gen_Static.calls ⟨#[65]⟩ ⟨#[102]⟩ 3 ⟨#[]⟩ ⟨#[]⟩ ⟨#[]⟩ 0 ⟨#[65]⟩ ⟨#[102]⟩ ⟨#[]⟩ ⟨#[]⟩ ⟨#[]⟩ 0 ⟨#[]⟩ _ rfl).mono ?_);rintro e w8 ⟨rfl,hb⟩;have HL9:=aq (HL8.out.below hb);have HB9:=aq (below_step HB8.out hb);clear hb)
  | (go_at_call 19;(with_reducible refine (Q43.gen_Field.calls ⟨#[65]⟩ ⟨#[109]⟩ ⟨#[40,41,86]⟩ 0 ⟨#[65]⟩ ⟨#[65]⟩ ⟨#[102]⟩ 4 ⟨#[]⟩ ⟨#[]⟩ ⟨#[]⟩ 0 ⟨#[65]⟩ ⟨#[102]⟩ ⟨#[65]⟩ ⟨#[109]⟩ ⟨#[40,41,86]⟩ 0 ⟨#[65]⟩ _ rfl).mono ?_);rintro e w9 ⟨rfl,hb⟩;have HL10:=aq (HL9.out.below hb);have HB10:=aq (below_step HB9.out hb);clear hb)
  | (go_at_call 21;(with_reducible refine (Q43.gen_Element.calls ⟨#[65]⟩ ⟨#[109]⟩ ⟨#[40,41,86]⟩ 0 ⟨#[65]⟩ 5 ⟨#[]⟩ ⟨#[]⟩ ⟨#[]⟩ 0 ⟨#[]⟩ ⟨#[]⟩ ⟨#[65]⟩ ⟨#[109]⟩ ⟨#[40,41,86]⟩ 0 ⟨#[65]⟩ _ rfl).mono ?_);rintro e w10 ⟨rfl,hb⟩;have HL11:=aq (HL10.out.below hb);have HB11:=aq (below_step HB10.out hb);clear hb)
  | (go_at_call 24;(with_reducible refine (live_pass w10).mono ?_);rintro e w11 ⟨v2,rfl,hR,hb⟩;have hb_:=below_step (below_alloc (Below.refl w10.heap.size w10) (Obj.cells #[.int .i64 0,.int .i64 1] 3)) hb;have HL12:=aq (HL11.out.below hb_);have HB12:=aq (below_step HB11.out hb_);(obtain ⟨A2,c2,hv,_,_⟩:=Kd.R_reads hR);(obtain rfl : v2 = .slice A2 2 c2:=hv);clear hb hb_ hR)))
 go_wp2_with fail
 exact bodyPost_ret (results_tmp rfl _ _ _) rfl ⟨rfl,HB12.out⟩
end Go.Proofs.Ytfplcohjnlbfjaa.Hand
end
